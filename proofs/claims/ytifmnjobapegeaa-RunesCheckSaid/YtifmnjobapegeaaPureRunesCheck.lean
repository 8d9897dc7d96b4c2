/- Check and Count answer as the chapter says, of all bytes. -/
import Derived.Test.YtifmnjobapegeaaLibF
import Derived.Test.YtifmnjobapegeaaPAllx26
namespace Go.Proofs.Ytifmnjobapegeaa.Pure
open Go.RowKit Go.Proofs.Ytifmnjobapegeaa.PAll Go.Proofs.YtifmnjobapegeaaW.PrintWords Go.Proofs.YtifmnjobapegeaaW.PrintLast

theorem RunesCheck : colophonlaw01_RunesCheck.Pure := by
  intro l hl hl2 hb
  have hb' := bytes_of hb
  refine Ev.rounds ?_
  unfold colophonlaw01_RunesCheck.f
  rw [copy_eq l (by omega)]
  simp only [Option.bind_some]
  obtain ⟨cs, r, h⟩ := text_of hb'
  refine Ev.bind (check_eq h hb' (by omega)) (Ev.bind (refCheck_eq h hb' (by omega)) (Ev.bind (count_eq h hb' (by omega)) (Ev.bind (refCount_eq h hb' (by omega)) ?_)))
  simp only [if_true]
  refine Ev.bind (eqBytes_self l (by omega)) ?_
  simp only [if_true]
  exact Ev.bind works_true (Ev.now _)
end Go.Proofs.Ytifmnjobapegeaa.Pure
