/-
  No cell of these rows narrows 'for every input' (looked for: loops, veiled, ifaces, maps, wideKeys, modest, calm, conditions, laid).
  DERIVED. THE GIVEN ROWS OF THIS SEAT. 11 by the template 'for every input the law returns true; each argument reads behind the call as it read before'; 0 by the template 'total and deterministic' (their statements: YtpfmoolpeecobaaTotals.lean).
  GIVEN WITH THE SEED: the statements are not yours to turn. If you find one false, say at which input.
  Laid BY PROGRAM, IN A SANDBOX (cutbox-rows.mjs): the forced cells as the released guide's own fill.sh prints them over the translation 4e3dec2d8690d9cd… (all of the seat's roots in one cut). By AI agents, Wed Nov 11 2026. No macro, syntax, notation, axiom, sorry.
-/
import Derived.Test.YtpfmoolpeecobaaChecked
import GoSem.Claim
import GoSem.ClaimJoined
import GoSem.ClaimMapViews
import Derived.JoinedTies
import Derived.KernelRfl
namespace Go.Proofs.Ytpfmoolpeecobaa
/- THE CELL 'sum', in the pinned program and in every row, IS THE sha256 OF THE DUMP (.gsa) THAT YtpfmoolpeecobaaProg.lean LOADS. Nothing in Lean hashes anything: it is a label: what it is worth is what the hold of that sum in a sandbox is worth. -/
noncomputable def Try.pinned : Pinned := { name := "ytpfmoolpeecobaa", sum := "4e3dec2d8690d9cdd0df1faba9785b4c06a42f86d744ff6d6cd24d50a159812c", checked := Try.checked }
namespace Rows
def none {H : Type} : Left H := { results := [], args := [] }

/-- 'marqueelaw03.UtfReads': WHATEVER THE INPUT: true; the input reads as it did. -/
def utfReadsSpec : ChangeSpec := { name := "utfReads", fn := fun _ => fun
  | [d] => { results := [.lit (.bool true)], args := [d] }
  | _ => none }
def utfReadsRow : OpenClaim := { program := "ytpfmoolpeecobaa", sum := "4e3dec2d8690d9cdd0df1faba9785b4c06a42f86d744ff6d6cd24d50a159812c", func := "marquee/marqueelaw03.UtfReads", spec := "utfReads", plainKeys := false, apart := false }
def UtfReadsSaid : Prop := utfReadsRow.holds Try.pinned (OpenSpec.ofChange utfReadsSpec)

/-- ITS FALSE NEIGHBOUR: 'it returns false'. Refute it at one input. -/
def utfReadsWrong : ChangeSpec := { name := "utfReads", fn := fun _ => fun
  | [d] => { results := [.lit (.bool false)], args := [d] }
  | _ => none }
def UtfReadsWrongFalsely : Prop := utfReadsRow.holds Try.pinned (OpenSpec.ofChange utfReadsWrong)

/-- 'marqueelaw03.UtfCuts': WHATEVER THE INPUT: true; the input reads as it did. -/
def utfCutsSpec : ChangeSpec := { name := "utfCuts", fn := fun _ => fun
  | [d1, d2] => { results := [.lit (.bool true)], args := [d1, d2] }
  | _ => none }
def utfCutsRow : OpenClaim := { program := "ytpfmoolpeecobaa", sum := "4e3dec2d8690d9cdd0df1faba9785b4c06a42f86d744ff6d6cd24d50a159812c", func := "marquee/marqueelaw03.UtfCuts", spec := "utfCuts", plainKeys := false, apart := false }
def UtfCutsSaid : Prop := utfCutsRow.holds Try.pinned (OpenSpec.ofChange utfCutsSpec)

/-- ITS FALSE NEIGHBOUR: 'it returns false'. Refute it at one input. -/
def utfCutsWrong : ChangeSpec := { name := "utfCuts", fn := fun _ => fun
  | [d1, d2] => { results := [.lit (.bool false)], args := [d1, d2] }
  | _ => none }
def UtfCutsWrongFalsely : Prop := utfCutsRow.holds Try.pinned (OpenSpec.ofChange utfCutsWrong)

/-- 'marqueelaw03.UtfFew': WHATEVER THE INPUT: true; the input reads as it did. -/
def utfFewSpec : ChangeSpec := { name := "utfFew", fn := fun _ => fun
  | [d1, d2] => { results := [.lit (.bool true)], args := [d1, d2] }
  | _ => none }
def utfFewRow : OpenClaim := { program := "ytpfmoolpeecobaa", sum := "4e3dec2d8690d9cdd0df1faba9785b4c06a42f86d744ff6d6cd24d50a159812c", func := "marquee/marqueelaw03.UtfFew", spec := "utfFew", plainKeys := false, apart := false }
def UtfFewSaid : Prop := utfFewRow.holds Try.pinned (OpenSpec.ofChange utfFewSpec)

/-- ITS FALSE NEIGHBOUR: 'it returns false'. Refute it at one input. -/
def utfFewWrong : ChangeSpec := { name := "utfFew", fn := fun _ => fun
  | [d1, d2] => { results := [.lit (.bool false)], args := [d1, d2] }
  | _ => none }
def UtfFewWrongFalsely : Prop := utfFewRow.holds Try.pinned (OpenSpec.ofChange utfFewWrong)

/-- 'marqueelaw03.UtfLays': WHATEVER THE INPUT: true; the input reads as it did. -/
def utfLaysSpec : ChangeSpec := { name := "utfLays", fn := fun _ => fun
  | [d] => { results := [.lit (.bool true)], args := [d] }
  | _ => none }
def utfLaysRow : OpenClaim := { program := "ytpfmoolpeecobaa", sum := "4e3dec2d8690d9cdd0df1faba9785b4c06a42f86d744ff6d6cd24d50a159812c", func := "marquee/marqueelaw03.UtfLays", spec := "utfLays", recurses := true, plainKeys := false, apart := false }
def UtfLaysSaid : Prop := utfLaysRow.holds Try.pinned (OpenSpec.ofChange utfLaysSpec)

/-- ITS FALSE NEIGHBOUR: 'it returns false'. Refute it at one input. -/
def utfLaysWrong : ChangeSpec := { name := "utfLays", fn := fun _ => fun
  | [d] => { results := [.lit (.bool false)], args := [d] }
  | _ => none }
def UtfLaysWrongFalsely : Prop := utfLaysRow.holds Try.pinned (OpenSpec.ofChange utfLaysWrong)

/-- 'marqueelaw03.UtfBack': WHATEVER THE INPUT: true; the input reads as it did. -/
def utfBackSpec : ChangeSpec := { name := "utfBack", fn := fun _ => fun
  | [d1, d2] => { results := [.lit (.bool true)], args := [d1, d2] }
  | _ => none }
def utfBackRow : OpenClaim := { program := "ytpfmoolpeecobaa", sum := "4e3dec2d8690d9cdd0df1faba9785b4c06a42f86d744ff6d6cd24d50a159812c", func := "marquee/marqueelaw03.UtfBack", spec := "utfBack", plainKeys := false, apart := false }
def UtfBackSaid : Prop := utfBackRow.holds Try.pinned (OpenSpec.ofChange utfBackSpec)

/-- ITS FALSE NEIGHBOUR: 'it returns false'. Refute it at one input. -/
def utfBackWrong : ChangeSpec := { name := "utfBack", fn := fun _ => fun
  | [d1, d2] => { results := [.lit (.bool false)], args := [d1, d2] }
  | _ => none }
def UtfBackWrongFalsely : Prop := utfBackRow.holds Try.pinned (OpenSpec.ofChange utfBackWrong)

/-- 'marqueelaw03.UtfEvery': WHATEVER THE INPUT: true; the input reads as it did. -/
def utfEverySpec : ChangeSpec := { name := "utfEvery", fn := fun _ => fun
  | [] => { results := [.lit (.bool true)], args := [] }
  | _ => none }
def utfEveryRow : OpenClaim := { program := "ytpfmoolpeecobaa", sum := "4e3dec2d8690d9cdd0df1faba9785b4c06a42f86d744ff6d6cd24d50a159812c", func := "marquee/marqueelaw03.UtfEvery", spec := "utfEvery", plainKeys := false, apart := false }
def UtfEverySaid : Prop := utfEveryRow.holds Try.pinned (OpenSpec.ofChange utfEverySpec)

/-- ITS FALSE NEIGHBOUR: 'it returns false'. Refute it at one input. -/
def utfEveryWrong : ChangeSpec := { name := "utfEvery", fn := fun _ => fun
  | [] => { results := [.lit (.bool false)], args := [] }
  | _ => none }
def UtfEveryWrongFalsely : Prop := utfEveryRow.holds Try.pinned (OpenSpec.ofChange utfEveryWrong)

/-- 'marqueelaw03.UtfKnown': WHATEVER THE INPUT: true; the input reads as it did. -/
def utfKnownSpec : ChangeSpec := { name := "utfKnown", fn := fun _ => fun
  | [] => { results := [.lit (.bool true)], args := [] }
  | _ => none }
def utfKnownRow : OpenClaim := { program := "ytpfmoolpeecobaa", sum := "4e3dec2d8690d9cdd0df1faba9785b4c06a42f86d744ff6d6cd24d50a159812c", func := "marquee/marqueelaw03.UtfKnown", spec := "utfKnown", plainKeys := false, apart := false }
def UtfKnownSaid : Prop := utfKnownRow.holds Try.pinned (OpenSpec.ofChange utfKnownSpec)

/-- ITS FALSE NEIGHBOUR: 'it returns false'. Refute it at one input. -/
def utfKnownWrong : ChangeSpec := { name := "utfKnown", fn := fun _ => fun
  | [] => { results := [.lit (.bool false)], args := [] }
  | _ => none }
def UtfKnownWrongFalsely : Prop := utfKnownRow.holds Try.pinned (OpenSpec.ofChange utfKnownWrong)

/-- 'marqueelaw34.ScriptMore': WHATEVER THE INPUT: true; the input reads as it did. -/
def scriptMoreSpec : ChangeSpec := { name := "scriptMore", fn := fun _ => fun
  | [d1, d2, d3] => { results := [.lit (.bool true)], args := [d1, d2, d3] }
  | _ => none }
def scriptMoreRow : OpenClaim := { program := "ytpfmoolpeecobaa", sum := "4e3dec2d8690d9cdd0df1faba9785b4c06a42f86d744ff6d6cd24d50a159812c", func := "marquee/marqueelaw34.ScriptMore", spec := "scriptMore", unfollowed := true, recurses := true, plainKeys := false, apart := false }
def ScriptMoreSaid : Prop := scriptMoreRow.holds Try.pinned (OpenSpec.ofChange scriptMoreSpec)

/-- ITS FALSE NEIGHBOUR: 'it returns false'. Refute it at one input. -/
def scriptMoreWrong : ChangeSpec := { name := "scriptMore", fn := fun _ => fun
  | [d1, d2, d3] => { results := [.lit (.bool false)], args := [d1, d2, d3] }
  | _ => none }
def ScriptMoreWrongFalsely : Prop := scriptMoreRow.holds Try.pinned (OpenSpec.ofChange scriptMoreWrong)

/-- 'marqueelaw34.ScriptLays': WHATEVER THE INPUT: true; the input reads as it did. -/
def scriptLaysSpec : ChangeSpec := { name := "scriptLays", fn := fun _ => fun
  | [d1, d2] => { results := [.lit (.bool true)], args := [d1, d2] }
  | _ => none }
def scriptLaysRow : OpenClaim := { program := "ytpfmoolpeecobaa", sum := "4e3dec2d8690d9cdd0df1faba9785b4c06a42f86d744ff6d6cd24d50a159812c", func := "marquee/marqueelaw34.ScriptLays", spec := "scriptLays", unfollowed := true, recurses := true, plainKeys := false, apart := false }
def ScriptLaysSaid : Prop := scriptLaysRow.holds Try.pinned (OpenSpec.ofChange scriptLaysSpec)

/-- ITS FALSE NEIGHBOUR: 'it returns false'. Refute it at one input. -/
def scriptLaysWrong : ChangeSpec := { name := "scriptLays", fn := fun _ => fun
  | [d1, d2] => { results := [.lit (.bool false)], args := [d1, d2] }
  | _ => none }
def ScriptLaysWrongFalsely : Prop := scriptLaysRow.holds Try.pinned (OpenSpec.ofChange scriptLaysWrong)

/-- 'marqueelaw34.ScriptBack': WHATEVER THE INPUT: true; the input reads as it did. -/
def scriptBackSpec : ChangeSpec := { name := "scriptBack", fn := fun _ => fun
  | [d] => { results := [.lit (.bool true)], args := [d] }
  | _ => none }
def scriptBackRow : OpenClaim := { program := "ytpfmoolpeecobaa", sum := "4e3dec2d8690d9cdd0df1faba9785b4c06a42f86d744ff6d6cd24d50a159812c", func := "marquee/marqueelaw34.ScriptBack", spec := "scriptBack", unfollowed := true, recurses := true, plainKeys := false, apart := false }
def ScriptBackSaid : Prop := scriptBackRow.holds Try.pinned (OpenSpec.ofChange scriptBackSpec)

/-- ITS FALSE NEIGHBOUR: 'it returns false'. Refute it at one input. -/
def scriptBackWrong : ChangeSpec := { name := "scriptBack", fn := fun _ => fun
  | [d] => { results := [.lit (.bool false)], args := [d] }
  | _ => none }
def ScriptBackWrongFalsely : Prop := scriptBackRow.holds Try.pinned (OpenSpec.ofChange scriptBackWrong)

/-- 'marqueelaw34.ScriptRight': WHATEVER THE INPUT: true; the input reads as it did. -/
def scriptRightSpec : ChangeSpec := { name := "scriptRight", fn := fun _ => fun
  | [d] => { results := [.lit (.bool true)], args := [d] }
  | _ => none }
def scriptRightRow : OpenClaim := { program := "ytpfmoolpeecobaa", sum := "4e3dec2d8690d9cdd0df1faba9785b4c06a42f86d744ff6d6cd24d50a159812c", func := "marquee/marqueelaw34.ScriptRight", spec := "scriptRight", unfollowed := true, recurses := true, plainKeys := false, apart := false }
def ScriptRightSaid : Prop := scriptRightRow.holds Try.pinned (OpenSpec.ofChange scriptRightSpec)

/-- ITS FALSE NEIGHBOUR: 'it returns false'. Refute it at one input. -/
def scriptRightWrong : ChangeSpec := { name := "scriptRight", fn := fun _ => fun
  | [d] => { results := [.lit (.bool false)], args := [d] }
  | _ => none }
def ScriptRightWrongFalsely : Prop := scriptRightRow.holds Try.pinned (OpenSpec.ofChange scriptRightWrong)

/- THE SECOND FORM. 'bulk': how many values and letters a reading holds, each counted each time it is reached (what is shared counts as often as it is met; a slice's spare places count too). A statement '..UptoSaid' is the law's where the arguments, and the package variables that the reading takes, are together of bulk at most 1048576: NARROWER than '..Said'. Prove '..Said' where nothing that the law and all that it calls make is longer than what came in: it says more and counts as full. Else prove '..UptoSaid'. A law counts once. -/
mutual
def uptoBulk {H : Type} : DataW H → Nat
  | .lit (.string bytes) => bytes.length + 1
  | .lit _ => 1
  | .nil => 1
  | .ptr d => uptoBulk d + 1
  | .slice elems spare => uptoBulkAll elems + uptoBulkAll spare + 1
  | .agg parts => uptoBulkAll parts + 1
  | .iface _ d => uptoBulk d + 1
  | .map entries => uptoBulkEntries entries + 1
  | .held _ => 1
def uptoBulkAll {H : Type} : List (DataW H) → Nat
  | [] => 0
  | d :: r => uptoBulk d + uptoBulkAll r
def uptoBulkEntries {H : Type} : List (Lit × DataW H) → Nat
  | [] => 0
  | x :: r => uptoBulkEntry x + uptoBulkEntries r
def uptoBulkEntry {H : Type} : Lit × DataW H → Nat
  | (.string bytes, d) => bytes.length + uptoBulk d + 1
  | (_, d) => uptoBulk d + 1
 end
def uptoSmall : (H : Type) → List (DataW H) → Bool := fun _ ds => decide (uptoBulkAll ds ≤ 1048576)
def OpenSpec.upto (s : _root_.Go.ChangeSpec) : _root_.Go.OpenSpec := { _root_.Go.OpenSpec.ofChange s with cond := some uptoSmall }

/-- 'marqueelaw03.UtfReads', WHERE WHAT IT READS IS OF BULK AT MOST 1048576: true; the input reads as it did. -/
def utfReadsUptoRow : OpenClaim := { program := "ytpfmoolpeecobaa", sum := "4e3dec2d8690d9cdd0df1faba9785b4c06a42f86d744ff6d6cd24d50a159812c", func := "marquee/marqueelaw03.UtfReads", spec := "utfReads", plainKeys := false, apart := false, narrowed := true }
def UtfReadsUptoSaid : Prop := utfReadsUptoRow.holds Try.pinned (OpenSpec.upto utfReadsSpec)

/-- 'marqueelaw03.UtfCuts', WHERE WHAT IT READS IS OF BULK AT MOST 1048576: true; the input reads as it did. -/
def utfCutsUptoRow : OpenClaim := { program := "ytpfmoolpeecobaa", sum := "4e3dec2d8690d9cdd0df1faba9785b4c06a42f86d744ff6d6cd24d50a159812c", func := "marquee/marqueelaw03.UtfCuts", spec := "utfCuts", plainKeys := false, apart := false, narrowed := true }
def UtfCutsUptoSaid : Prop := utfCutsUptoRow.holds Try.pinned (OpenSpec.upto utfCutsSpec)

/-- 'marqueelaw03.UtfFew', WHERE WHAT IT READS IS OF BULK AT MOST 1048576: true; the input reads as it did. -/
def utfFewUptoRow : OpenClaim := { program := "ytpfmoolpeecobaa", sum := "4e3dec2d8690d9cdd0df1faba9785b4c06a42f86d744ff6d6cd24d50a159812c", func := "marquee/marqueelaw03.UtfFew", spec := "utfFew", plainKeys := false, apart := false, narrowed := true }
def UtfFewUptoSaid : Prop := utfFewUptoRow.holds Try.pinned (OpenSpec.upto utfFewSpec)

/-- 'marqueelaw03.UtfLays', WHERE WHAT IT READS IS OF BULK AT MOST 1048576: true; the input reads as it did. -/
def utfLaysUptoRow : OpenClaim := { program := "ytpfmoolpeecobaa", sum := "4e3dec2d8690d9cdd0df1faba9785b4c06a42f86d744ff6d6cd24d50a159812c", func := "marquee/marqueelaw03.UtfLays", spec := "utfLays", recurses := true, plainKeys := false, apart := false, narrowed := true }
def UtfLaysUptoSaid : Prop := utfLaysUptoRow.holds Try.pinned (OpenSpec.upto utfLaysSpec)

/-- 'marqueelaw03.UtfBack', WHERE WHAT IT READS IS OF BULK AT MOST 1048576: true; the input reads as it did. -/
def utfBackUptoRow : OpenClaim := { program := "ytpfmoolpeecobaa", sum := "4e3dec2d8690d9cdd0df1faba9785b4c06a42f86d744ff6d6cd24d50a159812c", func := "marquee/marqueelaw03.UtfBack", spec := "utfBack", plainKeys := false, apart := false, narrowed := true }
def UtfBackUptoSaid : Prop := utfBackUptoRow.holds Try.pinned (OpenSpec.upto utfBackSpec)

/-- 'marqueelaw03.UtfEvery', WHERE WHAT IT READS IS OF BULK AT MOST 1048576: true; the input reads as it did. -/
def utfEveryUptoRow : OpenClaim := { program := "ytpfmoolpeecobaa", sum := "4e3dec2d8690d9cdd0df1faba9785b4c06a42f86d744ff6d6cd24d50a159812c", func := "marquee/marqueelaw03.UtfEvery", spec := "utfEvery", plainKeys := false, apart := false, narrowed := true }
def UtfEveryUptoSaid : Prop := utfEveryUptoRow.holds Try.pinned (OpenSpec.upto utfEverySpec)

/-- 'marqueelaw03.UtfKnown', WHERE WHAT IT READS IS OF BULK AT MOST 1048576: true; the input reads as it did. -/
def utfKnownUptoRow : OpenClaim := { program := "ytpfmoolpeecobaa", sum := "4e3dec2d8690d9cdd0df1faba9785b4c06a42f86d744ff6d6cd24d50a159812c", func := "marquee/marqueelaw03.UtfKnown", spec := "utfKnown", plainKeys := false, apart := false, narrowed := true }
def UtfKnownUptoSaid : Prop := utfKnownUptoRow.holds Try.pinned (OpenSpec.upto utfKnownSpec)

/-- 'marqueelaw34.ScriptMore', WHERE WHAT IT READS IS OF BULK AT MOST 1048576: true; the input reads as it did. -/
def scriptMoreUptoRow : OpenClaim := { program := "ytpfmoolpeecobaa", sum := "4e3dec2d8690d9cdd0df1faba9785b4c06a42f86d744ff6d6cd24d50a159812c", func := "marquee/marqueelaw34.ScriptMore", spec := "scriptMore", unfollowed := true, recurses := true, plainKeys := false, apart := false, narrowed := true }
def ScriptMoreUptoSaid : Prop := scriptMoreUptoRow.holds Try.pinned (OpenSpec.upto scriptMoreSpec)

/-- 'marqueelaw34.ScriptLays', WHERE WHAT IT READS IS OF BULK AT MOST 1048576: true; the input reads as it did. -/
def scriptLaysUptoRow : OpenClaim := { program := "ytpfmoolpeecobaa", sum := "4e3dec2d8690d9cdd0df1faba9785b4c06a42f86d744ff6d6cd24d50a159812c", func := "marquee/marqueelaw34.ScriptLays", spec := "scriptLays", unfollowed := true, recurses := true, plainKeys := false, apart := false, narrowed := true }
def ScriptLaysUptoSaid : Prop := scriptLaysUptoRow.holds Try.pinned (OpenSpec.upto scriptLaysSpec)

/-- 'marqueelaw34.ScriptBack', WHERE WHAT IT READS IS OF BULK AT MOST 1048576: true; the input reads as it did. -/
def scriptBackUptoRow : OpenClaim := { program := "ytpfmoolpeecobaa", sum := "4e3dec2d8690d9cdd0df1faba9785b4c06a42f86d744ff6d6cd24d50a159812c", func := "marquee/marqueelaw34.ScriptBack", spec := "scriptBack", unfollowed := true, recurses := true, plainKeys := false, apart := false, narrowed := true }
def ScriptBackUptoSaid : Prop := scriptBackUptoRow.holds Try.pinned (OpenSpec.upto scriptBackSpec)

/-- 'marqueelaw34.ScriptRight', WHERE WHAT IT READS IS OF BULK AT MOST 1048576: true; the input reads as it did. -/
def scriptRightUptoRow : OpenClaim := { program := "ytpfmoolpeecobaa", sum := "4e3dec2d8690d9cdd0df1faba9785b4c06a42f86d744ff6d6cd24d50a159812c", func := "marquee/marqueelaw34.ScriptRight", spec := "scriptRight", unfollowed := true, recurses := true, plainKeys := false, apart := false, narrowed := true }
def ScriptRightUptoSaid : Prop := scriptRightUptoRow.holds Try.pinned (OpenSpec.upto scriptRightSpec)

end Rows
end Go.Proofs.Ytpfmoolpeecobaa
