/- Offset of a prefix's units is its length. -/
import Derived.Test.YtifmnjobapegeabLibX
import Derived.Test.YtifmnjobapegeabPAllx30
namespace Go.Proofs.Ytifmnjobapegeab.Pure
open Go.RowKit Go.Proofs.Ytifmnjobapegeab.PAll Go.Proofs.YtifmnjobapegeabW.PrintWords Go.Proofs.YtifmnjobapegeabW.PrintLast

theorem UnitsPrefix : colophonlaw02_UnitsPrefix.Pure := by
  intro l m _ _ _ _ _ _
  obtain ⟨cs, hc, hcn, hl, hul, hT, hb, ht⟩ := textl_eq l
  obtain ⟨ds, hd, hdn, hl', hul', hT', hb', ht'⟩ := textl_eq m
  refine Ev.rounds ?_
  unfold colophonlaw02_UnitsPrefix.f
  refine Ev.bind unworks_true ?_
  simp only [if_true]
  refine Ev.bind ht (Ev.bind ht' (Ev.bind (of_eq hT hb (by omega)) ?_))
  rw [copy_eq (encs cs) (by omega)]
  have s : (encs cs).length + (encs ds).length < 140737488355328 := by omega
  simp only [Option.bind_some, s, if_true, err_nil]
  have hbb : isBytes (encs cs ++ encs ds) := fun x hx => by
    rcases List.mem_append.mp hx with h | h
    · exact hb x h
    · exact hb' x h
  have O := offset_eq (Text.append hT hT') hbb (by rw [List.length_append]; omega) (n := ((us cs).length : Int)) (by omega)
  refine Ev.bind O ?_
  unfold offs
  have h0 : ¬ ((us cs).length : Int) < 0 := by omega
  simp only [err_nil, if_true, h0, if_false, many_prefix]
  have e : (cs ++ ds).take cs.length = cs := by simp
  rw [e]
  simp only [beq_self_eq_true]
  exact Ev.now _
end Go.Proofs.Ytifmnjobapegeab.Pure
