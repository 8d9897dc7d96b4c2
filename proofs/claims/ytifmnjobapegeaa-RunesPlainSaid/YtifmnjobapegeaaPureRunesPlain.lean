/- Bytes below 80 are themselves; those from 80 to C1, and from F5 on, begin nothing. -/
import Derived.Test.YtifmnjobapegeaaLibC
import Derived.Test.YtifmnjobapegeaaPAllx19
namespace Go.Proofs.Ytifmnjobapegeaa.Pure
open Go.RowKit Go.Proofs.Ytifmnjobapegeaa.PAll Go.Proofs.YtifmnjobapegeaaW.PrintWords Go.Proofs.YtifmnjobapegeaaW.PrintLast

theorem RunesPlain : colophonlaw01_RunesPlain.Pure := by
  intro c l hc hl hl2 hb
  have hb' := bytes_of hb
  have hw := wf8 hc
  refine Ev.rounds ?_
  unfold colophonlaw01_RunesPlain.f
  refine Ev.bind works_true ?_
  simp only [if_true, Option.bind_some]
  obtain ⟨m, hm⟩ : ∃ m, m = mn (l.length : Int) 100 := ⟨_, rfl⟩
  have g : m ≤ (l.length : Int) ∧ m ≤ 100 ∧ 0 ≤ m := by rw [hm]; unfold mn; split <;> omega
  rw [← hm]
  have z : 0 ≤ m := g.2.2
  have y : m ≤ (l.length : Int) := g.1
  obtain ⟨t, ht⟩ : ∃ t, t = l.take m.toNat := ⟨_, rfl⟩
  have htl : t.length ≤ 100 := by rw [ht, List.length_take]; omega
  have htb : isBytes (c :: t) := by
    intro x hx
    rcases List.mem_cons.mp hx with rfl | h
    · exact hw
    · rw [ht] at h; exact hb' x (List.mem_of_mem_take h)
  rw [← ht]
  have s1 : ([c] : List Int).length + t.length < 140737488355328 := by simp; omega
  simp only [z, y, s1, if_true, List.cons_append, List.nil_append]
  have hd := decode_in (l := c :: t) (i := 0) (by omega) (by simp <;> omega) htb
  have e0 : (c :: t).drop (0 : Int).toNat = c :: t := rfl
  rw [e0] at hd
  refine Ev.bind hd ?_
  by_cases h1 : c < 128
  · have e : dec (c :: t) = (c, 1, 0) := by simp only [dec, h1, if_true]
    rw [e]
    have w : wrap64 c = c := by unfold wrap64; omega
    simp only [h1, w, if_true]
    exact Ev.now _
  · by_cases h2 : c < 194
    · have e : dec (c :: t) = (0, 0, 10) := by simp only [dec, h1, h2, if_true, if_false]
      rw [e]
      simp only [h1, h2, if_true, if_false]
      exact Ev.now _
    · by_cases h3 : c > 244
      · have h4 : ¬ c < 224 := by omega
        have h5 : ¬ c < 240 := by omega
        have h6 : ¬ c ≤ 244 := by omega
        have e : dec (c :: t) = (0, 0, 10) := by simp only [dec, h1, h2, h4, h5, h6, if_false]
        rw [e]
        simp only [h1, h2, h3, if_true, if_false]
        exact Ev.now _
      · simp only [h1, h2, h3, if_false]
        have hs := dec_seen (c :: t) (by simp) htb
        generalize dec (c :: t) = d at hs
        cases hs with
        | char x t' hx e =>
          have hl := enc_len hx
          have hp : ¬ (enc x).length = 1 := by
            intro h
            rw [enc1 (by omega)] at e
            simp at e
            unfold isCh at hx
            omega
          have : ((enc x).length : Int) > 1 := by omega
          simp only [this, if_true, decide_true]
          exact Ev.now _
        | piece _ => exact Ev.now _
        | none _ _ => exact Ev.now _
end Go.Proofs.Ytifmnjobapegeaa.Pure
