/- The statements' text of characters, 300 at most. -/
import Derived.Test.YtifmnjobapegeabLibW
import Derived.Test.YtifmnjobapegeabPAllx26
namespace Go.Proofs.Ytifmnjobapegeab.Pure
open Go.RowKit Go.Proofs.Ytifmnjobapegeab.PAll Go.Proofs.YtifmnjobapegeabW.PrintWords Go.Proofs.YtifmnjobapegeabW.PrintLast

theorem textl_loop (l : List Int) (d : Nat) : ∀ (i : Nat) (cs : List Int), i + d = 300 → (∀ c ∈ cs, isCh c) → cs.length ≤ i →
    ∃ ds, (∀ c ∈ ds, isCh c) ∧ ds.length ≤ 300 ∧ Ev (fun k => colophonlaw02_text.l0 k l (encs cs) (i : Int)) (encs ds) := by
  have stop : ∀ (i : Nat) (cs : List Int), (300 ≤ i ∨ l.length ≤ i) → (∀ c ∈ cs, isCh c) → cs.length ≤ 300 →
      ∃ ds, (∀ c ∈ ds, isCh c) ∧ ds.length ≤ 300 ∧ Ev (fun k => colophonlaw02_text.l0 k l (encs cs) (i : Int)) (encs ds) := by
    intro i cs hi hc hn
    refine ⟨cs, hc, hn, ?_⟩
    refine Ev.step (f := fun k => colophonlaw02_text.j1 k l (encs cs) (i : Int) false) (fun k => ?_) ?_
    · simp only [colophonlaw02_text.l0]
      by_cases h : (i : Int) < (l.length : Int)
      · rw [if_pos h, decide_eq_false (by omega)]
      · rw [if_neg h]
    · exact Ev.step (f := fun _ => some (encs cs)) (fun k => by simp only [colophonlaw02_text.j1, Bool.false_eq_true, if_false]) (Ev.now _)
  induction d with
  | zero => intro i cs hi hc hn; exact stop i cs (.inl (by omega)) hc (by omega)
  | succ d ih =>
    intro i cs hi hc hn
    by_cases hlt : i < l.length
    · have hl := encs_len cs
      have w1 : wrap64 ((i : Int) + 1) = ((i + 1 : Nat) : Int) := by unfold wrap64; omega
      have a1 : (0 : Int) ≤ (i : Int) := by omega
      have a2 : (i : Int) < (l.length : Int) := by omega
      have head : ∀ k, colophonlaw02_text.l0 (k + 1) l (encs cs) (i : Int) = colophonlaw02_text.j1 k l (encs cs) (i : Int) true := by
        intro k
        simp only [colophonlaw02_text.l0]
        rw [if_pos a2, decide_eq_true (by omega)]
      have head2 : ∀ k, colophonlaw02_text.j1 (k + 1) l (encs cs) (i : Int) true = (runes_Encode.f (rd l (i : Int))).bind fun x => if x.2 = 0 then (if (encs cs).length + x.1.length < 140737488355328 then colophonlaw02_text.l0 k l (encs cs ++ x.1) ((i + 1 : Nat) : Int) else none) else colophonlaw02_text.l0 k l (encs cs) ((i + 1 : Nat) : Int) := by
        intro k
        simp only [colophonlaw02_text.j1, if_true, a1, a2, w1]
      by_cases hch : isCh (rd l (i : Int))
      · have hp := enc_pos (rd l (i : Int))
        obtain ⟨ds, h1, h2, h3⟩ := ih (i + 1) (cs ++ [rd l (i : Int)]) (by omega) (fun c h => by
          rcases List.mem_append.mp h with h | h
          · exact hc c h
          · obtain rfl : c = rd l (i : Int) := by simpa using h
            exact hch) (by simp; omega)
        refine ⟨ds, h1, h2, Ev.step head (Ev.step head2 ?_)⟩
        rw [encode_ch hch]
        have s : (encs cs).length + (enc (rd l (i : Int))).length < 140737488355328 := by omega
        simp only [Option.bind_some, if_true, s]
        have e1 : encs [rd l (i : Int)] = enc (rd l (i : Int)) := by rw [encs_cons, encs_nil, List.append_nil]
        rw [encs_append, e1] at h3
        exact h3
      · obtain ⟨ds, h1, h2, h3⟩ := ih (i + 1) cs (by omega) hc (by omega)
        refine ⟨ds, h1, h2, Ev.step head (Ev.step head2 ?_)⟩
        rw [encode_no hch]
        have e10 : ¬ (10 : Int) = 0 := by omega
        simp only [Option.bind_some, e10, if_false]
        exact h3
    · exact stop i cs (.inr (by omega)) hc (by omega)
theorem textl_eq (l : List Int) : ∃ cs, (∀ c ∈ cs, isCh c) ∧ cs.length ≤ 300 ∧ (encs cs).length ≤ 1200 ∧ (us cs).length ≤ 1200 ∧ Text (encs cs) cs [] ∧ isBytes (encs cs) ∧ Ev (fun k => colophonlaw02_text.f k l) (encs cs) := by
  obtain ⟨cs, h1, h2, h3⟩ := textl_loop l 300 0 [] rfl (by simp) (by simp)
  have := encs_len cs
  have h4 := us_encs h1
  exact ⟨cs, h1, h2, by omega, by omega, Text.of_chars h1, encs_bytes h1, h3⟩
end Go.Proofs.Ytifmnjobapegeab.Pure
