/- The chapter's examples, both ends. -/
import Derived.Test.YtifmnjobapegeabLibW
import Derived.Test.YtifmnjobapegeabPAllx35
namespace Go.Proofs.Ytifmnjobapegeab.Pure
open Go.RowKit Go.Proofs.Ytifmnjobapegeab.PAll Go.Proofs.YtifmnjobapegeabW.PrintWords Go.Proofs.YtifmnjobapegeabW.PrintLast

theorem UnitsKnown : colophonlaw02_UnitsKnown.Pure := ⟨60, by decide +kernel⟩
end Go.Proofs.Ytifmnjobapegeab.Pure
