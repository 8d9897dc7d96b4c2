/- Text answers as the chapter says, of all units; what is handed in stays. -/
import Derived.Test.YtifmnjobapegeabLibM
import Derived.Test.YtifmnjobapegeabPAllx25
namespace Go.Proofs.Ytifmnjobapegeab.Pure
open Go.RowKit Go.Proofs.Ytifmnjobapegeab.PAll Go.Proofs.YtifmnjobapegeabW.PrintWords Go.Proofs.YtifmnjobapegeabW.PrintLast

/-- What Text answers. -/
def told : Option (List Int) → List Int × Int
  | some cs => (encs cs, 0)
  | none => ([], 10)
theorem text_eq {l : List Int} (hl : isUnits l) (hs : l.length ≤ 70368744177656) : Ev (fun k => units_Text.f k l) (told (chars l)) := by
  have := text_loop l.length l [] (Nat.le_refl _) (by simp only [List.length_nil]; omega) hl
  unfold units_Text.f
  cases hc : chars l with
  | none => rw [hc] at this; exact this
  | some cs => rw [hc] at this; simpa [told] using this
theorem refText_eq {l : List Int} (hl : isUnits l) (hs : l.length ≤ 70368744177656) : Ev (fun k => colophonref02_Text.f k l) (told (chars l)) := by
  have := refText_loop hl (by omega) l.length 0 [] (by omega) (by simp)
  unfold colophonref02_Text.f
  rw [show l.drop 0 = l from rfl] at this
  cases hc : chars l with
  | none => rw [hc] at this; exact this
  | some cs => rw [hc] at this; simpa [told] using this
/-- The plain law. -/
theorem UnitsText : colophonlaw02_UnitsText.Pure := by
  intro l _ hs hw
  have hl := units_of hw
  refine Ev.rounds ?_
  unfold colophonlaw02_UnitsText.f
  have s : ([] : List Int).length + l.length < 70368744177664 := by simp only [List.length_nil]; omega
  simp only [s, if_true, Option.bind_some, List.nil_append]
  obtain ⟨x, hx1, hx2, hx3⟩ : ∃ x : List Int × Int, Ev (fun k => units_Text.f k l) x ∧ Ev (fun k => colophonref02_Text.f k l) x ∧ x.1.length ≤ 1000000000000000 := by
    have h1 := text_eq hl (by omega)
    have h2 := refText_eq hl (by omega)
    cases hc : chars l with
    | none => rw [hc] at h1 h2; exact ⟨_, h1, h2, Nat.zero_le _⟩
    | some cs =>
      rw [hc] at h1 h2
      refine ⟨_, h1, h2, ?_⟩
      obtain ⟨e1, e2⟩ := us_chars l.length l cs (Nat.le_refl _) hl hc
      have := us_encs e2
      rw [e1] at this
      show (encs cs).length ≤ 1000000000000000
      omega
  refine Ev.bind hx1 (Ev.bind hx2 (Ev.bind (eqBytes_self x.1 hx3) ?_))
  simp only [if_true]
  refine Ev.bind (same_self l (by omega)) ?_
  simp only [if_true]
  exact Ev.bind unworks_true (Ev.now _)
end Go.Proofs.Ytifmnjobapegeab.Pure
