/- Characters one behind the other are text, of as many. -/
import Derived.Test.YtifmnjobapegeaaLibE
import Derived.Test.YtifmnjobapegeaaPAllx27
namespace Go.Proofs.Ytifmnjobapegeaa.Pure
open Go.RowKit Go.Proofs.Ytifmnjobapegeaa.PAll Go.Proofs.YtifmnjobapegeaaW.PrintWords Go.Proofs.YtifmnjobapegeaaW.PrintLast

theorem texts_loop (l : List Int) (d : Nat) : ∀ (i : Nat) (cs : List Int), i + d = 1000 → (∀ c ∈ cs, isCh c) → cs.length ≤ i →
    Ev (fun k => colophonlaw01_RunesTexts.l0 k l (encs cs) (cs.length : Int) (i : Int)) true := by
  have stop : ∀ (i : Nat) (cs : List Int), (1000 ≤ i ∨ l.length ≤ i) → (∀ c ∈ cs, isCh c) → cs.length ≤ i → i ≤ 1000 → Ev (fun k => colophonlaw01_RunesTexts.l0 k l (encs cs) (cs.length : Int) (i : Int)) true := by
    intro i cs hi hc hn hi2
    have hl := encs_len cs
    have hT := Text.of_chars hc
    have hb : isBytes (encs cs) := by
      intro x hx
      obtain ⟨c, hc', hx'⟩ := List.mem_flatMap.mp hx
      exact enc_bytes (hc c hc') x hx'
    refine Ev.step (f := fun k => colophonlaw01_RunesTexts.j1 k l (encs cs) (cs.length : Int) (i : Int) false) (fun k => ?_) ?_
    · simp only [colophonlaw01_RunesTexts.l0]
      by_cases h : (i : Int) < (l.length : Int)
      · rw [if_pos h, decide_eq_false (by omega)]
      · rw [if_neg h]
    · refine Ev.step (f := fun k => (runes_Check.f k (encs cs)).bind fun x => (runes_Count.f k (encs cs)).bind fun y => if x.2 = 0 then (if x.1 = ((encs cs).length : Int) then (if y.2 = 0 then some (y.1 == (cs.length : Int)) else some false) else some false) else some false) (fun k => ?_) ?_
      · simp only [colophonlaw01_RunesTexts.j1, Bool.false_eq_true, if_false]
      · refine Ev.bind (check_eq hT hb (by omega)) (Ev.bind (count_eq hT hb (by omega)) ?_)
        have e0 : err [] = 0 := rfl
        simp only [e0, if_true, beq_self_eq_true]
        exact Ev.now _
  induction d with
  | zero => intro i cs hi hc hn; exact stop i cs (.inl (by omega)) hc hn (by omega)
  | succ d ih =>
    intro i cs hi hc hn
    by_cases hlt : i < l.length
    · refine Ev.step (f := fun k => colophonlaw01_RunesTexts.j1 k l (encs cs) (cs.length : Int) (i : Int) true) (fun k => ?_) ?_
      · simp only [colophonlaw01_RunesTexts.l0]
        rw [if_pos (by omega), decide_eq_true (by omega)]
      have hl := encs_len cs
      have w1 : wrap64 ((i : Int) + 1) = ((i + 1 : Nat) : Int) := by unfold wrap64; omega
      have w2 : wrap64 ((cs.length : Int) + 1) = ((cs.length + 1 : Nat) : Int) := by unfold wrap64; omega
      have a1 : (0 : Int) ≤ (i : Int) := by omega
      have a2 : (i : Int) < (l.length : Int) := by omega
      refine Ev.step (f := fun k => (runes_Encode.f (rd l (i : Int))).bind fun x => if x.2 = 0 then (if (encs cs).length + x.1.length < 140737488355328 then colophonlaw01_RunesTexts.l0 k l (encs cs ++ x.1) ((cs.length + 1 : Nat) : Int) ((i + 1 : Nat) : Int) else none) else colophonlaw01_RunesTexts.l0 k l (encs cs) (cs.length : Int) ((i + 1 : Nat) : Int)) (fun k => ?_) ?_
      · simp only [colophonlaw01_RunesTexts.j1, if_true, a1, a2, w1, w2]
      by_cases hch : isCh (rd l (i : Int))
      · rw [encode_ch hch]
        simp only [Option.bind_some, if_true]
        have hp := enc_pos (rd l (i : Int))
        have s : (encs cs).length + (enc (rd l (i : Int))).length < 140737488355328 := by omega
        simp only [s, if_true]
        have := ih (i + 1) (cs ++ [rd l (i : Int)]) (by omega) (fun c h => by
          rcases List.mem_append.mp h with h | h
          · exact hc c h
          · obtain rfl : c = rd l (i : Int) := by simpa using h
            exact hch) (by simp; omega)
        rw [encs_append, List.length_append] at this
        have e1 : encs [rd l (i : Int)] = enc (rd l (i : Int)) := by rw [encs_cons, encs_nil, List.append_nil]
        rw [e1] at this
        exact this
      · rw [encode_no hch]
        simp only [Option.bind_some]
        have e10 : ¬ (10 : Int) = 0 := by omega
        simp only [e10, if_false]
        exact ih (i + 1) cs (by omega) hc (by omega)
    · exact stop i cs (.inr (by omega)) hc hn (by omega)

theorem RunesTexts : colophonlaw01_RunesTexts.Pure := by
  intro l _ _ _
  refine Ev.rounds ?_
  unfold colophonlaw01_RunesTexts.f
  refine Ev.bind works_true ?_
  simp only [if_true]
  exact texts_loop l 1000 0 [] rfl (by simp) (by simp)
end Go.Proofs.Ytifmnjobapegeaa.Pure
