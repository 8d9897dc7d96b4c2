/- Offset answers as the chapter says, of all bytes and numbers; what is handed in stays. -/
import Derived.Test.YtifmnjobapegeabLibM
import Derived.Test.YtifmnjobapegeabPAllx23
namespace Go.Proofs.Ytifmnjobapegeab.Pure
open Go.RowKit Go.Proofs.Ytifmnjobapegeab.PAll Go.Proofs.YtifmnjobapegeabW.PrintWords Go.Proofs.YtifmnjobapegeabW.PrintLast

theorem UnitsOffset : colophonlaw02_UnitsOffset.Pure := by
  intro l n hl hl2 hb hn
  have hb' := bytes_of hb
  have hw := wf64 hn
  obtain ⟨cs, r, hT⟩ := text_of hb'
  refine Ev.rounds ?_
  unfold colophonlaw02_UnitsOffset.f
  rw [copy_eq l (by omega)]
  simp only [Option.bind_some]
  refine Ev.bind (offset_eq hT hb' (by omega) (by omega)) (Ev.bind (refOffset_eq hT hb' (by omega)) ?_)
  simp only [if_true]
  refine Ev.bind (eqBytes_self l (by omega)) ?_
  simp only [if_true]
  exact Ev.bind unworks_true (Ev.now _)
end Go.Proofs.Ytifmnjobapegeab.Pure
