/- A text behind a text has the units of both. -/
import Derived.Test.YtifmnjobapegeabLibX
import Derived.Test.YtifmnjobapegeabPAllx33
namespace Go.Proofs.Ytifmnjobapegeab.Pure
open Go.RowKit Go.Proofs.Ytifmnjobapegeab.PAll Go.Proofs.YtifmnjobapegeabW.PrintWords Go.Proofs.YtifmnjobapegeabW.PrintLast

theorem UnitsTwo : colophonlaw02_UnitsTwo.Pure := by
  intro l m _ _ _ _ _ _
  obtain ⟨cs, hc, hcn, hl, hul, hT, hb, ht⟩ := textl_eq l
  obtain ⟨ds, hd, hdn, hl', hul', hT', hb', ht'⟩ := textl_eq m
  refine Ev.rounds ?_
  unfold colophonlaw02_UnitsTwo.f
  refine Ev.bind unworks_true ?_
  simp only [if_true]
  refine Ev.bind ht (Ev.bind ht' (Ev.bind (of16_eq hT hb (by omega)) (Ev.bind (of16_eq hT' hb' (by omega)) ?_)))
  rw [copy_eq (encs cs) (by omega)]
  have s : (encs cs).length + (encs ds).length < 140737488355328 := by omega
  simp only [Option.bind_some, s, if_true, err_nil]
  have hbb : isBytes (encs cs ++ encs ds) := fun x hx => by
    rcases List.mem_append.mp hx with h | h
    · exact hb x h
    · exact hb' x h
  refine Ev.bind (of16_eq (Text.append hT hT') hbb (by rw [List.length_append]; omega)) ?_
  have s2 : (us cs).length + (us ds).length < 70368744177664 := by omega
  simp only [err_nil, if_true, s2, us_append]
  exact Ev.bind (same_self _ (by rw [List.length_append]; omega)) (Ev.now _)
end Go.Proofs.Ytifmnjobapegeab.Pure
