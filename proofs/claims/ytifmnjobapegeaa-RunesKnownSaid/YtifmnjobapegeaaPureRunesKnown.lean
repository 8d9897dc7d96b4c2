/- The chapter's examples, both ends of each form. -/
import Derived.Test.YtifmnjobapegeaaPAllx29
namespace Go.Proofs.Ytifmnjobapegeaa.Pure
open Go.RowKit Go.Proofs.Ytifmnjobapegeaa.PAll Go.Proofs.YtifmnjobapegeaaW.PrintWords Go.Proofs.YtifmnjobapegeaaW.PrintLast

theorem RunesKnown : colophonlaw01_RunesKnown.Pure := ⟨100, by decide +kernel⟩
end Go.Proofs.Ytifmnjobapegeaa.Pure
