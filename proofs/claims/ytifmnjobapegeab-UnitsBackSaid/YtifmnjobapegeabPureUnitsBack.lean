/- Text takes back Of16. -/
import Derived.Test.YtifmnjobapegeabLibX
import Derived.Test.YtifmnjobapegeabPAllx27
namespace Go.Proofs.Ytifmnjobapegeab.Pure
open Go.RowKit Go.Proofs.Ytifmnjobapegeab.PAll Go.Proofs.YtifmnjobapegeabW.PrintWords Go.Proofs.YtifmnjobapegeabW.PrintLast

theorem UnitsBack : colophonlaw02_UnitsBack.Pure := by
  intro l _ _ _
  obtain ⟨cs, hc, hn, hl, hul, hT, hb, ht⟩ := textl_eq l
  refine Ev.rounds ?_
  unfold colophonlaw02_UnitsBack.f
  refine Ev.bind unworks_true ?_
  simp only [if_true]
  have D := text_loop (us cs).length (us cs) [] (Nat.le_refl _) (by simp only [List.length_nil]; omega) (us_units hc)
  rw [chars_us hc] at D
  have D' : Ev (fun k => units_Text.f k (us cs)) (encs cs, 0) := by unfold units_Text.f; simpa using D
  refine Ev.bind ht (Ev.bind (of16_eq hT hb (by omega)) ?_)
  simp only [err_nil, if_true]
  refine Ev.bind D' (Ev.bind (of_eq hT hb (by omega)) ?_)
  simp only [err_nil, if_true]
  refine Ev.bind (eqBytes_self _ (by omega)) ?_
  have h := us_encs hc
  have g1 : ((us cs).length : Int) ≤ ((encs cs).length : Int) := by omega
  have g2 : ((encs cs).length : Int) ≤ wrap64 (3 * ((us cs).length : Int)) := by
    have : wrap64 (3 * ((us cs).length : Int)) = 3 * ((us cs).length : Int) := by unfold wrap64; omega
    omega
  simp only [if_true, g1, g2, decide_true]
  exact Ev.now _
end Go.Proofs.Ytifmnjobapegeab.Pure
