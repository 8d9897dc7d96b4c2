/-
  No cell of these rows narrows 'for every input' (looked for: loops, veiled, ifaces, maps, wideKeys, modest, calm, conditions, laid).
  DERIVED. THE GIVEN ROWS OF THIS SEAT. 12 by the template 'for every input the law returns true; each argument reads behind the call as it read before'; 0 by the template 'total and deterministic' (their statements: YtifmnjobapegeaaTotals.lean).
  GIVEN WITH THE SEED: the statements are not yours to turn. If you find one false, say at which input.
  Laid BY PROGRAM, IN A SANDBOX (cutbox-rows.mjs): the forced cells as the released guide's own fill.sh prints them over the translation c4d6f660711963b5… (all of the seat's roots in one cut). By AI agents, Wed Nov 11 2026. No macro, syntax, notation, axiom, sorry.
-/
import Derived.Test.YtifmnjobapegeaaChecked
import GoSem.Claim
import GoSem.ClaimJoined
import GoSem.ClaimMapViews
import Derived.JoinedTies
import Derived.KernelRfl
namespace Go.Proofs.Ytifmnjobapegeaa
/- THE CELL 'sum', in the pinned program and in every row, IS THE sha256 OF THE DUMP (.gsa) THAT YtifmnjobapegeaaProg.lean LOADS. Nothing in Lean hashes anything: it is a label: what it is worth is what the hold of that sum in a sandbox is worth. -/
noncomputable def Try.pinned : Pinned := { name := "ytifmnjobapegeaa", sum := "c4d6f660711963b5104b0de6e263e032f7c27369a6ddf74e61e5013109b6c742", checked := Try.checked }
namespace Rows
def none {H : Type} : Left H := { results := [], args := [] }

/-- 'colophonlaw01.RunesEncode': WHATEVER THE INPUT: true; the input reads as it did. -/
def runesEncodeSpec : ChangeSpec := { name := "runesEncode", fn := fun _ => fun
  | [d] => { results := [.lit (.bool true)], args := [d] }
  | _ => none }
def runesEncodeRow : OpenClaim := { program := "ytifmnjobapegeaa", sum := "c4d6f660711963b5104b0de6e263e032f7c27369a6ddf74e61e5013109b6c742", func := "colophon/colophonlaw01.RunesEncode", spec := "runesEncode", unfollowed := true, recurses := true, apart := false }
def RunesEncodeSaid : Prop := runesEncodeRow.holds Try.pinned (OpenSpec.ofChange runesEncodeSpec)

/-- ITS FALSE NEIGHBOUR: 'it returns false'. Refute it at one input. -/
def runesEncodeWrong : ChangeSpec := { name := "runesEncode", fn := fun _ => fun
  | [d] => { results := [.lit (.bool false)], args := [d] }
  | _ => none }
def RunesEncodeWrongFalsely : Prop := runesEncodeRow.holds Try.pinned (OpenSpec.ofChange runesEncodeWrong)

/-- 'colophonlaw01.RunesDecode': WHATEVER THE INPUT: true; the input reads as it did. -/
def runesDecodeSpec : ChangeSpec := { name := "runesDecode", fn := fun _ => fun
  | [d1, d2] => { results := [.lit (.bool true)], args := [d1, d2] }
  | _ => none }
def runesDecodeRow : OpenClaim := { program := "ytifmnjobapegeaa", sum := "c4d6f660711963b5104b0de6e263e032f7c27369a6ddf74e61e5013109b6c742", func := "colophon/colophonlaw01.RunesDecode", spec := "runesDecode", unfollowed := true, recurses := true, apart := false }
def RunesDecodeSaid : Prop := runesDecodeRow.holds Try.pinned (OpenSpec.ofChange runesDecodeSpec)

/-- ITS FALSE NEIGHBOUR: 'it returns false'. Refute it at one input. -/
def runesDecodeWrong : ChangeSpec := { name := "runesDecode", fn := fun _ => fun
  | [d1, d2] => { results := [.lit (.bool false)], args := [d1, d2] }
  | _ => none }
def RunesDecodeWrongFalsely : Prop := runesDecodeRow.holds Try.pinned (OpenSpec.ofChange runesDecodeWrong)

/-- 'colophonlaw01.RunesBack': WHATEVER THE INPUT: true; the input reads as it did. -/
def runesBackSpec : ChangeSpec := { name := "runesBack", fn := fun _ => fun
  | [d1, d2, d3] => { results := [.lit (.bool true)], args := [d1, d2, d3] }
  | _ => none }
def runesBackRow : OpenClaim := { program := "ytifmnjobapegeaa", sum := "c4d6f660711963b5104b0de6e263e032f7c27369a6ddf74e61e5013109b6c742", func := "colophon/colophonlaw01.RunesBack", spec := "runesBack", unfollowed := true, recurses := true, apart := false }
def RunesBackSaid : Prop := runesBackRow.holds Try.pinned (OpenSpec.ofChange runesBackSpec)

/-- ITS FALSE NEIGHBOUR: 'it returns false'. Refute it at one input. -/
def runesBackWrong : ChangeSpec := { name := "runesBack", fn := fun _ => fun
  | [d1, d2, d3] => { results := [.lit (.bool false)], args := [d1, d2, d3] }
  | _ => none }
def RunesBackWrongFalsely : Prop := runesBackRow.holds Try.pinned (OpenSpec.ofChange runesBackWrong)

/-- 'colophonlaw01.RunesAgain': WHATEVER THE INPUT: true; the input reads as it did. -/
def runesAgainSpec : ChangeSpec := { name := "runesAgain", fn := fun _ => fun
  | [d1, d2] => { results := [.lit (.bool true)], args := [d1, d2] }
  | _ => none }
def runesAgainRow : OpenClaim := { program := "ytifmnjobapegeaa", sum := "c4d6f660711963b5104b0de6e263e032f7c27369a6ddf74e61e5013109b6c742", func := "colophon/colophonlaw01.RunesAgain", spec := "runesAgain", unfollowed := true, recurses := true, apart := false }
def RunesAgainSaid : Prop := runesAgainRow.holds Try.pinned (OpenSpec.ofChange runesAgainSpec)

/-- ITS FALSE NEIGHBOUR: 'it returns false'. Refute it at one input. -/
def runesAgainWrong : ChangeSpec := { name := "runesAgain", fn := fun _ => fun
  | [d1, d2] => { results := [.lit (.bool false)], args := [d1, d2] }
  | _ => none }
def RunesAgainWrongFalsely : Prop := runesAgainRow.holds Try.pinned (OpenSpec.ofChange runesAgainWrong)

/-- 'colophonlaw01.RunesPrefix': WHATEVER THE INPUT: true; the input reads as it did. -/
def runesPrefixSpec : ChangeSpec := { name := "runesPrefix", fn := fun _ => fun
  | [d1, d2] => { results := [.lit (.bool true)], args := [d1, d2] }
  | _ => none }
def runesPrefixRow : OpenClaim := { program := "ytifmnjobapegeaa", sum := "c4d6f660711963b5104b0de6e263e032f7c27369a6ddf74e61e5013109b6c742", func := "colophon/colophonlaw01.RunesPrefix", spec := "runesPrefix", unfollowed := true, recurses := true, apart := false }
def RunesPrefixSaid : Prop := runesPrefixRow.holds Try.pinned (OpenSpec.ofChange runesPrefixSpec)

/-- ITS FALSE NEIGHBOUR: 'it returns false'. Refute it at one input. -/
def runesPrefixWrong : ChangeSpec := { name := "runesPrefix", fn := fun _ => fun
  | [d1, d2] => { results := [.lit (.bool false)], args := [d1, d2] }
  | _ => none }
def RunesPrefixWrongFalsely : Prop := runesPrefixRow.holds Try.pinned (OpenSpec.ofChange runesPrefixWrong)

/-- 'colophonlaw01.RunesPlain': WHATEVER THE INPUT: true; the input reads as it did. -/
def runesPlainSpec : ChangeSpec := { name := "runesPlain", fn := fun _ => fun
  | [d1, d2] => { results := [.lit (.bool true)], args := [d1, d2] }
  | _ => none }
def runesPlainRow : OpenClaim := { program := "ytifmnjobapegeaa", sum := "c4d6f660711963b5104b0de6e263e032f7c27369a6ddf74e61e5013109b6c742", func := "colophon/colophonlaw01.RunesPlain", spec := "runesPlain", unfollowed := true, recurses := true, apart := false }
def RunesPlainSaid : Prop := runesPlainRow.holds Try.pinned (OpenSpec.ofChange runesPlainSpec)

/-- ITS FALSE NEIGHBOUR: 'it returns false'. Refute it at one input. -/
def runesPlainWrong : ChangeSpec := { name := "runesPlain", fn := fun _ => fun
  | [d1, d2] => { results := [.lit (.bool false)], args := [d1, d2] }
  | _ => none }
def RunesPlainWrongFalsely : Prop := runesPlainRow.holds Try.pinned (OpenSpec.ofChange runesPlainWrong)

/-- 'colophonlaw01.RunesPiece': WHATEVER THE INPUT: true; the input reads as it did. -/
def runesPieceSpec : ChangeSpec := { name := "runesPiece", fn := fun _ => fun
  | [d1, d2] => { results := [.lit (.bool true)], args := [d1, d2] }
  | _ => none }
def runesPieceRow : OpenClaim := { program := "ytifmnjobapegeaa", sum := "c4d6f660711963b5104b0de6e263e032f7c27369a6ddf74e61e5013109b6c742", func := "colophon/colophonlaw01.RunesPiece", spec := "runesPiece", unfollowed := true, recurses := true, apart := false }
def RunesPieceSaid : Prop := runesPieceRow.holds Try.pinned (OpenSpec.ofChange runesPieceSpec)

/-- ITS FALSE NEIGHBOUR: 'it returns false'. Refute it at one input. -/
def runesPieceWrong : ChangeSpec := { name := "runesPiece", fn := fun _ => fun
  | [d1, d2] => { results := [.lit (.bool false)], args := [d1, d2] }
  | _ => none }
def RunesPieceWrongFalsely : Prop := runesPieceRow.holds Try.pinned (OpenSpec.ofChange runesPieceWrong)

/-- 'colophonlaw01.RunesCheck': WHATEVER THE INPUT: true; the input reads as it did. -/
def runesCheckSpec : ChangeSpec := { name := "runesCheck", fn := fun _ => fun
  | [d] => { results := [.lit (.bool true)], args := [d] }
  | _ => none }
def runesCheckRow : OpenClaim := { program := "ytifmnjobapegeaa", sum := "c4d6f660711963b5104b0de6e263e032f7c27369a6ddf74e61e5013109b6c742", func := "colophon/colophonlaw01.RunesCheck", spec := "runesCheck", unfollowed := true, recurses := true, apart := false }
def RunesCheckSaid : Prop := runesCheckRow.holds Try.pinned (OpenSpec.ofChange runesCheckSpec)

/-- ITS FALSE NEIGHBOUR: 'it returns false'. Refute it at one input. -/
def runesCheckWrong : ChangeSpec := { name := "runesCheck", fn := fun _ => fun
  | [d] => { results := [.lit (.bool false)], args := [d] }
  | _ => none }
def RunesCheckWrongFalsely : Prop := runesCheckRow.holds Try.pinned (OpenSpec.ofChange runesCheckWrong)

/-- 'colophonlaw01.RunesTexts': WHATEVER THE INPUT: true; the input reads as it did. -/
def runesTextsSpec : ChangeSpec := { name := "runesTexts", fn := fun _ => fun
  | [d] => { results := [.lit (.bool true)], args := [d] }
  | _ => none }
def runesTextsRow : OpenClaim := { program := "ytifmnjobapegeaa", sum := "c4d6f660711963b5104b0de6e263e032f7c27369a6ddf74e61e5013109b6c742", func := "colophon/colophonlaw01.RunesTexts", spec := "runesTexts", unfollowed := true, recurses := true, apart := false }
def RunesTextsSaid : Prop := runesTextsRow.holds Try.pinned (OpenSpec.ofChange runesTextsSpec)

/-- ITS FALSE NEIGHBOUR: 'it returns false'. Refute it at one input. -/
def runesTextsWrong : ChangeSpec := { name := "runesTexts", fn := fun _ => fun
  | [d] => { results := [.lit (.bool false)], args := [d] }
  | _ => none }
def RunesTextsWrongFalsely : Prop := runesTextsRow.holds Try.pinned (OpenSpec.ofChange runesTextsWrong)

/-- 'colophonlaw01.RunesTwo': WHATEVER THE INPUT: true; the input reads as it did. -/
def runesTwoSpec : ChangeSpec := { name := "runesTwo", fn := fun _ => fun
  | [d1, d2] => { results := [.lit (.bool true)], args := [d1, d2] }
  | _ => none }
def runesTwoRow : OpenClaim := { program := "ytifmnjobapegeaa", sum := "c4d6f660711963b5104b0de6e263e032f7c27369a6ddf74e61e5013109b6c742", func := "colophon/colophonlaw01.RunesTwo", spec := "runesTwo", unfollowed := true, recurses := true, apart := false }
def RunesTwoSaid : Prop := runesTwoRow.holds Try.pinned (OpenSpec.ofChange runesTwoSpec)

/-- ITS FALSE NEIGHBOUR: 'it returns false'. Refute it at one input. -/
def runesTwoWrong : ChangeSpec := { name := "runesTwo", fn := fun _ => fun
  | [d1, d2] => { results := [.lit (.bool false)], args := [d1, d2] }
  | _ => none }
def RunesTwoWrongFalsely : Prop := runesTwoRow.holds Try.pinned (OpenSpec.ofChange runesTwoWrong)

/-- 'colophonlaw01.RunesKnown': WHATEVER THE INPUT: true; the input reads as it did. -/
def runesKnownSpec : ChangeSpec := { name := "runesKnown", fn := fun _ => fun
  | [] => { results := [.lit (.bool true)], args := [] }
  | _ => none }
def runesKnownRow : OpenClaim := { program := "ytifmnjobapegeaa", sum := "c4d6f660711963b5104b0de6e263e032f7c27369a6ddf74e61e5013109b6c742", func := "colophon/colophonlaw01.RunesKnown", spec := "runesKnown", unfollowed := true, recurses := true, apart := false }
def RunesKnownSaid : Prop := runesKnownRow.holds Try.pinned (OpenSpec.ofChange runesKnownSpec)

/-- ITS FALSE NEIGHBOUR: 'it returns false'. Refute it at one input. -/
def runesKnownWrong : ChangeSpec := { name := "runesKnown", fn := fun _ => fun
  | [] => { results := [.lit (.bool false)], args := [] }
  | _ => none }
def RunesKnownWrongFalsely : Prop := runesKnownRow.holds Try.pinned (OpenSpec.ofChange runesKnownWrong)

/-- 'colophonlaw02.UnitsOf': WHATEVER THE INPUT: true; the input reads as it did. -/
def unitsOfSpec : ChangeSpec := { name := "unitsOf", fn := fun _ => fun
  | [d] => { results := [.lit (.bool true)], args := [d] }
  | _ => none }
def unitsOfRow : OpenClaim := { program := "ytifmnjobapegeaa", sum := "c4d6f660711963b5104b0de6e263e032f7c27369a6ddf74e61e5013109b6c742", func := "colophon/colophonlaw02.UnitsOf", spec := "unitsOf", unfollowed := true, recurses := true, apart := false }
def UnitsOfSaid : Prop := unitsOfRow.holds Try.pinned (OpenSpec.ofChange unitsOfSpec)

/-- ITS FALSE NEIGHBOUR: 'it returns false'. Refute it at one input. -/
def unitsOfWrong : ChangeSpec := { name := "unitsOf", fn := fun _ => fun
  | [d] => { results := [.lit (.bool false)], args := [d] }
  | _ => none }
def UnitsOfWrongFalsely : Prop := unitsOfRow.holds Try.pinned (OpenSpec.ofChange unitsOfWrong)

/- THE SECOND FORM. 'bulk': how many values and letters a reading holds, each counted each time it is reached (what is shared counts as often as it is met; a slice's spare places count too). A statement '..UptoSaid' is the law's where the arguments, and the package variables that the reading takes, are together of bulk at most 1048576: NARROWER than '..Said'. Prove '..Said' where nothing that the law and all that it calls make is longer than what came in: it says more and counts as full. Else prove '..UptoSaid'. A law counts once. -/
mutual
def uptoBulk {H : Type} : DataW H → Nat
  | .lit (.string bytes) => bytes.length + 1
  | .lit _ => 1
  | .nil => 1
  | .ptr d => uptoBulk d + 1
  | .slice elems spare => uptoBulkAll elems + uptoBulkAll spare + 1
  | .agg parts => uptoBulkAll parts + 1
  | .iface _ d => uptoBulk d + 1
  | .map entries => uptoBulkEntries entries + 1
  | .held _ => 1
def uptoBulkAll {H : Type} : List (DataW H) → Nat
  | [] => 0
  | d :: r => uptoBulk d + uptoBulkAll r
def uptoBulkEntries {H : Type} : List (Lit × DataW H) → Nat
  | [] => 0
  | x :: r => uptoBulkEntry x + uptoBulkEntries r
def uptoBulkEntry {H : Type} : Lit × DataW H → Nat
  | (.string bytes, d) => bytes.length + uptoBulk d + 1
  | (_, d) => uptoBulk d + 1
 end
def uptoSmall : (H : Type) → List (DataW H) → Bool := fun _ ds => decide (uptoBulkAll ds ≤ 1048576)
def OpenSpec.upto (s : _root_.Go.ChangeSpec) : _root_.Go.OpenSpec := { _root_.Go.OpenSpec.ofChange s with cond := some uptoSmall }

/-- 'colophonlaw01.RunesEncode', WHERE WHAT IT READS IS OF BULK AT MOST 1048576: true; the input reads as it did. -/
def runesEncodeUptoRow : OpenClaim := { program := "ytifmnjobapegeaa", sum := "c4d6f660711963b5104b0de6e263e032f7c27369a6ddf74e61e5013109b6c742", func := "colophon/colophonlaw01.RunesEncode", spec := "runesEncode", unfollowed := true, recurses := true, apart := false, narrowed := true }
def RunesEncodeUptoSaid : Prop := runesEncodeUptoRow.holds Try.pinned (OpenSpec.upto runesEncodeSpec)

/-- 'colophonlaw01.RunesDecode', WHERE WHAT IT READS IS OF BULK AT MOST 1048576: true; the input reads as it did. -/
def runesDecodeUptoRow : OpenClaim := { program := "ytifmnjobapegeaa", sum := "c4d6f660711963b5104b0de6e263e032f7c27369a6ddf74e61e5013109b6c742", func := "colophon/colophonlaw01.RunesDecode", spec := "runesDecode", unfollowed := true, recurses := true, apart := false, narrowed := true }
def RunesDecodeUptoSaid : Prop := runesDecodeUptoRow.holds Try.pinned (OpenSpec.upto runesDecodeSpec)

/-- 'colophonlaw01.RunesBack', WHERE WHAT IT READS IS OF BULK AT MOST 1048576: true; the input reads as it did. -/
def runesBackUptoRow : OpenClaim := { program := "ytifmnjobapegeaa", sum := "c4d6f660711963b5104b0de6e263e032f7c27369a6ddf74e61e5013109b6c742", func := "colophon/colophonlaw01.RunesBack", spec := "runesBack", unfollowed := true, recurses := true, apart := false, narrowed := true }
def RunesBackUptoSaid : Prop := runesBackUptoRow.holds Try.pinned (OpenSpec.upto runesBackSpec)

/-- 'colophonlaw01.RunesAgain', WHERE WHAT IT READS IS OF BULK AT MOST 1048576: true; the input reads as it did. -/
def runesAgainUptoRow : OpenClaim := { program := "ytifmnjobapegeaa", sum := "c4d6f660711963b5104b0de6e263e032f7c27369a6ddf74e61e5013109b6c742", func := "colophon/colophonlaw01.RunesAgain", spec := "runesAgain", unfollowed := true, recurses := true, apart := false, narrowed := true }
def RunesAgainUptoSaid : Prop := runesAgainUptoRow.holds Try.pinned (OpenSpec.upto runesAgainSpec)

/-- 'colophonlaw01.RunesPrefix', WHERE WHAT IT READS IS OF BULK AT MOST 1048576: true; the input reads as it did. -/
def runesPrefixUptoRow : OpenClaim := { program := "ytifmnjobapegeaa", sum := "c4d6f660711963b5104b0de6e263e032f7c27369a6ddf74e61e5013109b6c742", func := "colophon/colophonlaw01.RunesPrefix", spec := "runesPrefix", unfollowed := true, recurses := true, apart := false, narrowed := true }
def RunesPrefixUptoSaid : Prop := runesPrefixUptoRow.holds Try.pinned (OpenSpec.upto runesPrefixSpec)

/-- 'colophonlaw01.RunesPlain', WHERE WHAT IT READS IS OF BULK AT MOST 1048576: true; the input reads as it did. -/
def runesPlainUptoRow : OpenClaim := { program := "ytifmnjobapegeaa", sum := "c4d6f660711963b5104b0de6e263e032f7c27369a6ddf74e61e5013109b6c742", func := "colophon/colophonlaw01.RunesPlain", spec := "runesPlain", unfollowed := true, recurses := true, apart := false, narrowed := true }
def RunesPlainUptoSaid : Prop := runesPlainUptoRow.holds Try.pinned (OpenSpec.upto runesPlainSpec)

/-- 'colophonlaw01.RunesPiece', WHERE WHAT IT READS IS OF BULK AT MOST 1048576: true; the input reads as it did. -/
def runesPieceUptoRow : OpenClaim := { program := "ytifmnjobapegeaa", sum := "c4d6f660711963b5104b0de6e263e032f7c27369a6ddf74e61e5013109b6c742", func := "colophon/colophonlaw01.RunesPiece", spec := "runesPiece", unfollowed := true, recurses := true, apart := false, narrowed := true }
def RunesPieceUptoSaid : Prop := runesPieceUptoRow.holds Try.pinned (OpenSpec.upto runesPieceSpec)

/-- 'colophonlaw01.RunesCheck', WHERE WHAT IT READS IS OF BULK AT MOST 1048576: true; the input reads as it did. -/
def runesCheckUptoRow : OpenClaim := { program := "ytifmnjobapegeaa", sum := "c4d6f660711963b5104b0de6e263e032f7c27369a6ddf74e61e5013109b6c742", func := "colophon/colophonlaw01.RunesCheck", spec := "runesCheck", unfollowed := true, recurses := true, apart := false, narrowed := true }
def RunesCheckUptoSaid : Prop := runesCheckUptoRow.holds Try.pinned (OpenSpec.upto runesCheckSpec)

/-- 'colophonlaw01.RunesTexts', WHERE WHAT IT READS IS OF BULK AT MOST 1048576: true; the input reads as it did. -/
def runesTextsUptoRow : OpenClaim := { program := "ytifmnjobapegeaa", sum := "c4d6f660711963b5104b0de6e263e032f7c27369a6ddf74e61e5013109b6c742", func := "colophon/colophonlaw01.RunesTexts", spec := "runesTexts", unfollowed := true, recurses := true, apart := false, narrowed := true }
def RunesTextsUptoSaid : Prop := runesTextsUptoRow.holds Try.pinned (OpenSpec.upto runesTextsSpec)

/-- 'colophonlaw01.RunesTwo', WHERE WHAT IT READS IS OF BULK AT MOST 1048576: true; the input reads as it did. -/
def runesTwoUptoRow : OpenClaim := { program := "ytifmnjobapegeaa", sum := "c4d6f660711963b5104b0de6e263e032f7c27369a6ddf74e61e5013109b6c742", func := "colophon/colophonlaw01.RunesTwo", spec := "runesTwo", unfollowed := true, recurses := true, apart := false, narrowed := true }
def RunesTwoUptoSaid : Prop := runesTwoUptoRow.holds Try.pinned (OpenSpec.upto runesTwoSpec)

/-- 'colophonlaw01.RunesKnown', WHERE WHAT IT READS IS OF BULK AT MOST 1048576: true; the input reads as it did. -/
def runesKnownUptoRow : OpenClaim := { program := "ytifmnjobapegeaa", sum := "c4d6f660711963b5104b0de6e263e032f7c27369a6ddf74e61e5013109b6c742", func := "colophon/colophonlaw01.RunesKnown", spec := "runesKnown", unfollowed := true, recurses := true, apart := false, narrowed := true }
def RunesKnownUptoSaid : Prop := runesKnownUptoRow.holds Try.pinned (OpenSpec.upto runesKnownSpec)

/-- 'colophonlaw02.UnitsOf', WHERE WHAT IT READS IS OF BULK AT MOST 1048576: true; the input reads as it did. -/
def unitsOfUptoRow : OpenClaim := { program := "ytifmnjobapegeaa", sum := "c4d6f660711963b5104b0de6e263e032f7c27369a6ddf74e61e5013109b6c742", func := "colophon/colophonlaw02.UnitsOf", spec := "unitsOf", unfollowed := true, recurses := true, apart := false, narrowed := true }
def UnitsOfUptoSaid : Prop := unitsOfUptoRow.holds Try.pinned (OpenSpec.upto unitsOfSpec)

end Rows
end Go.Proofs.Ytifmnjobapegeaa
