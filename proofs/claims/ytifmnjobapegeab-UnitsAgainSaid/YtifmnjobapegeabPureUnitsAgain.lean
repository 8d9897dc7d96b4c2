/- Of16 takes back Text, of all units. -/
import Derived.Test.YtifmnjobapegeabLibV
import Derived.Test.YtifmnjobapegeabLibW
import Derived.Test.YtifmnjobapegeabPAllx28
namespace Go.Proofs.Ytifmnjobapegeab.Pure
open Go.RowKit Go.Proofs.Ytifmnjobapegeab.PAll Go.Proofs.YtifmnjobapegeabW.PrintWords Go.Proofs.YtifmnjobapegeabW.PrintLast

/-- The plain law. -/
theorem UnitsAgain : colophonlaw02_UnitsAgain.Pure := by
  intro l _ hs hw
  have hl := units_of hw
  refine Ev.rounds ?_
  unfold colophonlaw02_UnitsAgain.f
  refine Ev.bind unworks_true ?_
  simp only [if_true]
  have h1 := text_loop l.length l [] (Nat.le_refl _) (by simp only [List.length_nil]; omega) hl
  cases hc : chars l with
  | none =>
    rw [hc] at h1
    exact Ev.bind (g := fun k => units_Text.f k l) (a := ([], 10)) h1 (Ev.now _)
  | some cs =>
    rw [hc] at h1
    refine Ev.bind (g := fun k => units_Text.f k l) (a := (encs cs, 0)) (by unfold units_Text.f; simpa using h1) ?_
    obtain ⟨e1, e2⟩ := us_chars l.length l cs (Nat.le_refl _) hl hc
    have hu := us_encs e2
    rw [e1] at hu
    have hb := encs_bytes e2
    have hT := Text.of_chars e2
    have O := of16_eq_of hT hb (by omega) (by rw [e1]; omega)
    rw [e1] at O
    simp only [err_nil, if_true] at O ⊢
    refine Ev.bind O (Ev.bind (check_eq hT hb (by omega)) ?_)
    simp only [err_nil, if_true, beq_self_eq_true]
    refine Ev.bind (same_self l (by omega)) ?_
    simp only [if_true]
    exact Ev.now _
end Go.Proofs.Ytifmnjobapegeab.Pure
