/-
  No cell of these rows narrows 'for every input' (looked for: loops, veiled, ifaces, maps, wideKeys, modest, calm, conditions, laid).
  DERIVED. THE GIVEN ROWS OF THIS SEAT. 10 by the template 'for every input the law returns true; each argument reads behind the call as it read before'; 0 by the template 'total and deterministic' (their statements: YtifmnjobapegeabTotals.lean).
  GIVEN WITH THE SEED: the statements are not yours to turn. If you find one false, say at which input.
  Laid BY PROGRAM, IN A SANDBOX (cutbox-rows.mjs): the forced cells as the released guide's own fill.sh prints them over the translation e420c3eac2f5799d… (all of the seat's roots in one cut). By AI agents, Wed Nov 11 2026. No macro, syntax, notation, axiom, sorry.
-/
import Derived.Test.YtifmnjobapegeabChecked
import GoSem.Claim
import GoSem.ClaimJoined
import GoSem.ClaimMapViews
import Derived.JoinedTies
import Derived.KernelRfl
namespace Go.Proofs.Ytifmnjobapegeab
/- THE CELL 'sum', in the pinned program and in every row, IS THE sha256 OF THE DUMP (.gsa) THAT YtifmnjobapegeabProg.lean LOADS. Nothing in Lean hashes anything: it is a label: what it is worth is what the hold of that sum in a sandbox is worth. -/
noncomputable def Try.pinned : Pinned := { name := "ytifmnjobapegeab", sum := "e420c3eac2f5799d952f9af8bfb0680b9db86bad248f4f9c9b6ecf533d25a432", checked := Try.checked }
namespace Rows
def none {H : Type} : Left H := { results := [], args := [] }

/-- 'colophonlaw02.UnitsOffset': WHATEVER THE INPUT: true; the input reads as it did. -/
def unitsOffsetSpec : ChangeSpec := { name := "unitsOffset", fn := fun _ => fun
  | [d1, d2] => { results := [.lit (.bool true)], args := [d1, d2] }
  | _ => none }
def unitsOffsetRow : OpenClaim := { program := "ytifmnjobapegeab", sum := "e420c3eac2f5799d952f9af8bfb0680b9db86bad248f4f9c9b6ecf533d25a432", func := "colophon/colophonlaw02.UnitsOffset", spec := "unitsOffset", unfollowed := true, recurses := true, apart := false }
def UnitsOffsetSaid : Prop := unitsOffsetRow.holds Try.pinned (OpenSpec.ofChange unitsOffsetSpec)

/-- ITS FALSE NEIGHBOUR: 'it returns false'. Refute it at one input. -/
def unitsOffsetWrong : ChangeSpec := { name := "unitsOffset", fn := fun _ => fun
  | [d1, d2] => { results := [.lit (.bool false)], args := [d1, d2] }
  | _ => none }
def UnitsOffsetWrongFalsely : Prop := unitsOffsetRow.holds Try.pinned (OpenSpec.ofChange unitsOffsetWrong)

/-- 'colophonlaw02.UnitsText': WHATEVER THE INPUT: true; the input reads as it did. -/
def unitsTextSpec : ChangeSpec := { name := "unitsText", fn := fun _ => fun
  | [d] => { results := [.lit (.bool true)], args := [d] }
  | _ => none }
def unitsTextRow : OpenClaim := { program := "ytifmnjobapegeab", sum := "e420c3eac2f5799d952f9af8bfb0680b9db86bad248f4f9c9b6ecf533d25a432", func := "colophon/colophonlaw02.UnitsText", spec := "unitsText", unfollowed := true, recurses := true, apart := false }
def UnitsTextSaid : Prop := unitsTextRow.holds Try.pinned (OpenSpec.ofChange unitsTextSpec)

/-- ITS FALSE NEIGHBOUR: 'it returns false'. Refute it at one input. -/
def unitsTextWrong : ChangeSpec := { name := "unitsText", fn := fun _ => fun
  | [d] => { results := [.lit (.bool false)], args := [d] }
  | _ => none }
def UnitsTextWrongFalsely : Prop := unitsTextRow.holds Try.pinned (OpenSpec.ofChange unitsTextWrong)

/-- 'colophonlaw02.UnitsBack': WHATEVER THE INPUT: true; the input reads as it did. -/
def unitsBackSpec : ChangeSpec := { name := "unitsBack", fn := fun _ => fun
  | [d] => { results := [.lit (.bool true)], args := [d] }
  | _ => none }
def unitsBackRow : OpenClaim := { program := "ytifmnjobapegeab", sum := "e420c3eac2f5799d952f9af8bfb0680b9db86bad248f4f9c9b6ecf533d25a432", func := "colophon/colophonlaw02.UnitsBack", spec := "unitsBack", unfollowed := true, recurses := true, apart := false }
def UnitsBackSaid : Prop := unitsBackRow.holds Try.pinned (OpenSpec.ofChange unitsBackSpec)

/-- ITS FALSE NEIGHBOUR: 'it returns false'. Refute it at one input. -/
def unitsBackWrong : ChangeSpec := { name := "unitsBack", fn := fun _ => fun
  | [d] => { results := [.lit (.bool false)], args := [d] }
  | _ => none }
def UnitsBackWrongFalsely : Prop := unitsBackRow.holds Try.pinned (OpenSpec.ofChange unitsBackWrong)

/-- 'colophonlaw02.UnitsAgain': WHATEVER THE INPUT: true; the input reads as it did. -/
def unitsAgainSpec : ChangeSpec := { name := "unitsAgain", fn := fun _ => fun
  | [d] => { results := [.lit (.bool true)], args := [d] }
  | _ => none }
def unitsAgainRow : OpenClaim := { program := "ytifmnjobapegeab", sum := "e420c3eac2f5799d952f9af8bfb0680b9db86bad248f4f9c9b6ecf533d25a432", func := "colophon/colophonlaw02.UnitsAgain", spec := "unitsAgain", unfollowed := true, recurses := true, apart := false }
def UnitsAgainSaid : Prop := unitsAgainRow.holds Try.pinned (OpenSpec.ofChange unitsAgainSpec)

/-- ITS FALSE NEIGHBOUR: 'it returns false'. Refute it at one input. -/
def unitsAgainWrong : ChangeSpec := { name := "unitsAgain", fn := fun _ => fun
  | [d] => { results := [.lit (.bool false)], args := [d] }
  | _ => none }
def UnitsAgainWrongFalsely : Prop := unitsAgainRow.holds Try.pinned (OpenSpec.ofChange unitsAgainWrong)

/-- 'colophonlaw02.UnitsEnds': WHATEVER THE INPUT: true; the input reads as it did. -/
def unitsEndsSpec : ChangeSpec := { name := "unitsEnds", fn := fun _ => fun
  | [d1, d2] => { results := [.lit (.bool true)], args := [d1, d2] }
  | _ => none }
def unitsEndsRow : OpenClaim := { program := "ytifmnjobapegeab", sum := "e420c3eac2f5799d952f9af8bfb0680b9db86bad248f4f9c9b6ecf533d25a432", func := "colophon/colophonlaw02.UnitsEnds", spec := "unitsEnds", unfollowed := true, recurses := true, apart := false }
def UnitsEndsSaid : Prop := unitsEndsRow.holds Try.pinned (OpenSpec.ofChange unitsEndsSpec)

/-- ITS FALSE NEIGHBOUR: 'it returns false'. Refute it at one input. -/
def unitsEndsWrong : ChangeSpec := { name := "unitsEnds", fn := fun _ => fun
  | [d1, d2] => { results := [.lit (.bool false)], args := [d1, d2] }
  | _ => none }
def UnitsEndsWrongFalsely : Prop := unitsEndsRow.holds Try.pinned (OpenSpec.ofChange unitsEndsWrong)

/-- 'colophonlaw02.UnitsPrefix': WHATEVER THE INPUT: true; the input reads as it did. -/
def unitsPrefixSpec : ChangeSpec := { name := "unitsPrefix", fn := fun _ => fun
  | [d1, d2] => { results := [.lit (.bool true)], args := [d1, d2] }
  | _ => none }
def unitsPrefixRow : OpenClaim := { program := "ytifmnjobapegeab", sum := "e420c3eac2f5799d952f9af8bfb0680b9db86bad248f4f9c9b6ecf533d25a432", func := "colophon/colophonlaw02.UnitsPrefix", spec := "unitsPrefix", unfollowed := true, recurses := true, apart := false }
def UnitsPrefixSaid : Prop := unitsPrefixRow.holds Try.pinned (OpenSpec.ofChange unitsPrefixSpec)

/-- ITS FALSE NEIGHBOUR: 'it returns false'. Refute it at one input. -/
def unitsPrefixWrong : ChangeSpec := { name := "unitsPrefix", fn := fun _ => fun
  | [d1, d2] => { results := [.lit (.bool false)], args := [d1, d2] }
  | _ => none }
def UnitsPrefixWrongFalsely : Prop := unitsPrefixRow.holds Try.pinned (OpenSpec.ofChange unitsPrefixWrong)

/-- 'colophonlaw02.UnitsRise': WHATEVER THE INPUT: true; the input reads as it did. -/
def unitsRiseSpec : ChangeSpec := { name := "unitsRise", fn := fun _ => fun
  | [d1, d2, d3] => { results := [.lit (.bool true)], args := [d1, d2, d3] }
  | _ => none }
def unitsRiseRow : OpenClaim := { program := "ytifmnjobapegeab", sum := "e420c3eac2f5799d952f9af8bfb0680b9db86bad248f4f9c9b6ecf533d25a432", func := "colophon/colophonlaw02.UnitsRise", spec := "unitsRise", unfollowed := true, recurses := true, apart := false }
def UnitsRiseSaid : Prop := unitsRiseRow.holds Try.pinned (OpenSpec.ofChange unitsRiseSpec)

/-- ITS FALSE NEIGHBOUR: 'it returns false'. Refute it at one input. -/
def unitsRiseWrong : ChangeSpec := { name := "unitsRise", fn := fun _ => fun
  | [d1, d2, d3] => { results := [.lit (.bool false)], args := [d1, d2, d3] }
  | _ => none }
def UnitsRiseWrongFalsely : Prop := unitsRiseRow.holds Try.pinned (OpenSpec.ofChange unitsRiseWrong)

/-- 'colophonlaw02.UnitsTwo': WHATEVER THE INPUT: true; the input reads as it did. -/
def unitsTwoSpec : ChangeSpec := { name := "unitsTwo", fn := fun _ => fun
  | [d1, d2] => { results := [.lit (.bool true)], args := [d1, d2] }
  | _ => none }
def unitsTwoRow : OpenClaim := { program := "ytifmnjobapegeab", sum := "e420c3eac2f5799d952f9af8bfb0680b9db86bad248f4f9c9b6ecf533d25a432", func := "colophon/colophonlaw02.UnitsTwo", spec := "unitsTwo", unfollowed := true, recurses := true, apart := false }
def UnitsTwoSaid : Prop := unitsTwoRow.holds Try.pinned (OpenSpec.ofChange unitsTwoSpec)

/-- ITS FALSE NEIGHBOUR: 'it returns false'. Refute it at one input. -/
def unitsTwoWrong : ChangeSpec := { name := "unitsTwo", fn := fun _ => fun
  | [d1, d2] => { results := [.lit (.bool false)], args := [d1, d2] }
  | _ => none }
def UnitsTwoWrongFalsely : Prop := unitsTwoRow.holds Try.pinned (OpenSpec.ofChange unitsTwoWrong)

/-- 'colophonlaw02.UnitsBad': WHATEVER THE INPUT: true; the input reads as it did. -/
def unitsBadSpec : ChangeSpec := { name := "unitsBad", fn := fun _ => fun
  | [d1, d2] => { results := [.lit (.bool true)], args := [d1, d2] }
  | _ => none }
def unitsBadRow : OpenClaim := { program := "ytifmnjobapegeab", sum := "e420c3eac2f5799d952f9af8bfb0680b9db86bad248f4f9c9b6ecf533d25a432", func := "colophon/colophonlaw02.UnitsBad", spec := "unitsBad", unfollowed := true, recurses := true, apart := false }
def UnitsBadSaid : Prop := unitsBadRow.holds Try.pinned (OpenSpec.ofChange unitsBadSpec)

/-- ITS FALSE NEIGHBOUR: 'it returns false'. Refute it at one input. -/
def unitsBadWrong : ChangeSpec := { name := "unitsBad", fn := fun _ => fun
  | [d1, d2] => { results := [.lit (.bool false)], args := [d1, d2] }
  | _ => none }
def UnitsBadWrongFalsely : Prop := unitsBadRow.holds Try.pinned (OpenSpec.ofChange unitsBadWrong)

/-- 'colophonlaw02.UnitsKnown': WHATEVER THE INPUT: true; the input reads as it did. -/
def unitsKnownSpec : ChangeSpec := { name := "unitsKnown", fn := fun _ => fun
  | [] => { results := [.lit (.bool true)], args := [] }
  | _ => none }
def unitsKnownRow : OpenClaim := { program := "ytifmnjobapegeab", sum := "e420c3eac2f5799d952f9af8bfb0680b9db86bad248f4f9c9b6ecf533d25a432", func := "colophon/colophonlaw02.UnitsKnown", spec := "unitsKnown", unfollowed := true, recurses := true, apart := false }
def UnitsKnownSaid : Prop := unitsKnownRow.holds Try.pinned (OpenSpec.ofChange unitsKnownSpec)

/-- ITS FALSE NEIGHBOUR: 'it returns false'. Refute it at one input. -/
def unitsKnownWrong : ChangeSpec := { name := "unitsKnown", fn := fun _ => fun
  | [] => { results := [.lit (.bool false)], args := [] }
  | _ => none }
def UnitsKnownWrongFalsely : Prop := unitsKnownRow.holds Try.pinned (OpenSpec.ofChange unitsKnownWrong)

/- THE SECOND FORM. 'bulk': how many values and letters a reading holds, each counted each time it is reached (what is shared counts as often as it is met; a slice's spare places count too). A statement '..UptoSaid' is the law's where the arguments, and the package variables that the reading takes, are together of bulk at most 1048576: NARROWER than '..Said'. Prove '..Said' where nothing that the law and all that it calls make is longer than what came in: it says more and counts as full. Else prove '..UptoSaid'. A law counts once. -/
mutual
def uptoBulk {H : Type} : DataW H → Nat
  | .lit (.string bytes) => bytes.length + 1
  | .lit _ => 1
  | .nil => 1
  | .ptr d => uptoBulk d + 1
  | .slice elems spare => uptoBulkAll elems + uptoBulkAll spare + 1
  | .agg parts => uptoBulkAll parts + 1
  | .iface _ d => uptoBulk d + 1
  | .map entries => uptoBulkEntries entries + 1
  | .held _ => 1
def uptoBulkAll {H : Type} : List (DataW H) → Nat
  | [] => 0
  | d :: r => uptoBulk d + uptoBulkAll r
def uptoBulkEntries {H : Type} : List (Lit × DataW H) → Nat
  | [] => 0
  | x :: r => uptoBulkEntry x + uptoBulkEntries r
def uptoBulkEntry {H : Type} : Lit × DataW H → Nat
  | (.string bytes, d) => bytes.length + uptoBulk d + 1
  | (_, d) => uptoBulk d + 1
 end
def uptoSmall : (H : Type) → List (DataW H) → Bool := fun _ ds => decide (uptoBulkAll ds ≤ 1048576)
def OpenSpec.upto (s : _root_.Go.ChangeSpec) : _root_.Go.OpenSpec := { _root_.Go.OpenSpec.ofChange s with cond := some uptoSmall }

/-- 'colophonlaw02.UnitsOffset', WHERE WHAT IT READS IS OF BULK AT MOST 1048576: true; the input reads as it did. -/
def unitsOffsetUptoRow : OpenClaim := { program := "ytifmnjobapegeab", sum := "e420c3eac2f5799d952f9af8bfb0680b9db86bad248f4f9c9b6ecf533d25a432", func := "colophon/colophonlaw02.UnitsOffset", spec := "unitsOffset", unfollowed := true, recurses := true, apart := false, narrowed := true }
def UnitsOffsetUptoSaid : Prop := unitsOffsetUptoRow.holds Try.pinned (OpenSpec.upto unitsOffsetSpec)

/-- 'colophonlaw02.UnitsText', WHERE WHAT IT READS IS OF BULK AT MOST 1048576: true; the input reads as it did. -/
def unitsTextUptoRow : OpenClaim := { program := "ytifmnjobapegeab", sum := "e420c3eac2f5799d952f9af8bfb0680b9db86bad248f4f9c9b6ecf533d25a432", func := "colophon/colophonlaw02.UnitsText", spec := "unitsText", unfollowed := true, recurses := true, apart := false, narrowed := true }
def UnitsTextUptoSaid : Prop := unitsTextUptoRow.holds Try.pinned (OpenSpec.upto unitsTextSpec)

/-- 'colophonlaw02.UnitsBack', WHERE WHAT IT READS IS OF BULK AT MOST 1048576: true; the input reads as it did. -/
def unitsBackUptoRow : OpenClaim := { program := "ytifmnjobapegeab", sum := "e420c3eac2f5799d952f9af8bfb0680b9db86bad248f4f9c9b6ecf533d25a432", func := "colophon/colophonlaw02.UnitsBack", spec := "unitsBack", unfollowed := true, recurses := true, apart := false, narrowed := true }
def UnitsBackUptoSaid : Prop := unitsBackUptoRow.holds Try.pinned (OpenSpec.upto unitsBackSpec)

/-- 'colophonlaw02.UnitsAgain', WHERE WHAT IT READS IS OF BULK AT MOST 1048576: true; the input reads as it did. -/
def unitsAgainUptoRow : OpenClaim := { program := "ytifmnjobapegeab", sum := "e420c3eac2f5799d952f9af8bfb0680b9db86bad248f4f9c9b6ecf533d25a432", func := "colophon/colophonlaw02.UnitsAgain", spec := "unitsAgain", unfollowed := true, recurses := true, apart := false, narrowed := true }
def UnitsAgainUptoSaid : Prop := unitsAgainUptoRow.holds Try.pinned (OpenSpec.upto unitsAgainSpec)

/-- 'colophonlaw02.UnitsEnds', WHERE WHAT IT READS IS OF BULK AT MOST 1048576: true; the input reads as it did. -/
def unitsEndsUptoRow : OpenClaim := { program := "ytifmnjobapegeab", sum := "e420c3eac2f5799d952f9af8bfb0680b9db86bad248f4f9c9b6ecf533d25a432", func := "colophon/colophonlaw02.UnitsEnds", spec := "unitsEnds", unfollowed := true, recurses := true, apart := false, narrowed := true }
def UnitsEndsUptoSaid : Prop := unitsEndsUptoRow.holds Try.pinned (OpenSpec.upto unitsEndsSpec)

/-- 'colophonlaw02.UnitsPrefix', WHERE WHAT IT READS IS OF BULK AT MOST 1048576: true; the input reads as it did. -/
def unitsPrefixUptoRow : OpenClaim := { program := "ytifmnjobapegeab", sum := "e420c3eac2f5799d952f9af8bfb0680b9db86bad248f4f9c9b6ecf533d25a432", func := "colophon/colophonlaw02.UnitsPrefix", spec := "unitsPrefix", unfollowed := true, recurses := true, apart := false, narrowed := true }
def UnitsPrefixUptoSaid : Prop := unitsPrefixUptoRow.holds Try.pinned (OpenSpec.upto unitsPrefixSpec)

/-- 'colophonlaw02.UnitsRise', WHERE WHAT IT READS IS OF BULK AT MOST 1048576: true; the input reads as it did. -/
def unitsRiseUptoRow : OpenClaim := { program := "ytifmnjobapegeab", sum := "e420c3eac2f5799d952f9af8bfb0680b9db86bad248f4f9c9b6ecf533d25a432", func := "colophon/colophonlaw02.UnitsRise", spec := "unitsRise", unfollowed := true, recurses := true, apart := false, narrowed := true }
def UnitsRiseUptoSaid : Prop := unitsRiseUptoRow.holds Try.pinned (OpenSpec.upto unitsRiseSpec)

/-- 'colophonlaw02.UnitsTwo', WHERE WHAT IT READS IS OF BULK AT MOST 1048576: true; the input reads as it did. -/
def unitsTwoUptoRow : OpenClaim := { program := "ytifmnjobapegeab", sum := "e420c3eac2f5799d952f9af8bfb0680b9db86bad248f4f9c9b6ecf533d25a432", func := "colophon/colophonlaw02.UnitsTwo", spec := "unitsTwo", unfollowed := true, recurses := true, apart := false, narrowed := true }
def UnitsTwoUptoSaid : Prop := unitsTwoUptoRow.holds Try.pinned (OpenSpec.upto unitsTwoSpec)

/-- 'colophonlaw02.UnitsBad', WHERE WHAT IT READS IS OF BULK AT MOST 1048576: true; the input reads as it did. -/
def unitsBadUptoRow : OpenClaim := { program := "ytifmnjobapegeab", sum := "e420c3eac2f5799d952f9af8bfb0680b9db86bad248f4f9c9b6ecf533d25a432", func := "colophon/colophonlaw02.UnitsBad", spec := "unitsBad", unfollowed := true, recurses := true, apart := false, narrowed := true }
def UnitsBadUptoSaid : Prop := unitsBadUptoRow.holds Try.pinned (OpenSpec.upto unitsBadSpec)

/-- 'colophonlaw02.UnitsKnown', WHERE WHAT IT READS IS OF BULK AT MOST 1048576: true; the input reads as it did. -/
def unitsKnownUptoRow : OpenClaim := { program := "ytifmnjobapegeab", sum := "e420c3eac2f5799d952f9af8bfb0680b9db86bad248f4f9c9b6ecf533d25a432", func := "colophon/colophonlaw02.UnitsKnown", spec := "unitsKnown", unfollowed := true, recurses := true, apart := false, narrowed := true }
def UnitsKnownUptoSaid : Prop := unitsKnownUptoRow.holds Try.pinned (OpenSpec.upto unitsKnownSpec)

end Rows
end Go.Proofs.Ytifmnjobapegeab
