/- Text behind text is text, of as many characters as both. -/
import Derived.Test.YtifmnjobapegeaaLibE
import Derived.Test.YtifmnjobapegeaaPAllx28
namespace Go.Proofs.Ytifmnjobapegeaa.Pure
open Go.RowKit Go.Proofs.Ytifmnjobapegeaa.PAll Go.Proofs.YtifmnjobapegeaaW.PrintWords Go.Proofs.YtifmnjobapegeaaW.PrintLast

theorem RunesTwo : colophonlaw01_RunesTwo.Pure := by
  intro l1 l2 h1 h1' b1 h2 h2' b2
  have hb1 := bytes_of b1
  have hb2 := bytes_of b2
  refine Ev.rounds ?_
  unfold colophonlaw01_RunesTwo.f
  refine Ev.bind works_true ?_
  simp only [if_true]
  obtain ⟨m1, hm1⟩ : ∃ m, m = mn (l1.length : Int) 1000 := ⟨_, rfl⟩
  obtain ⟨m2, hm2⟩ : ∃ m, m = mn (l2.length : Int) 1000 := ⟨_, rfl⟩
  have g1 : m1 ≤ (l1.length : Int) ∧ m1 ≤ 1000 ∧ 0 ≤ m1 := by rw [hm1]; unfold mn; split <;> omega
  have g2 : m2 ≤ (l2.length : Int) ∧ m2 ≤ 1000 ∧ 0 ≤ m2 := by rw [hm2]; unfold mn; split <;> omega
  rw [← hm1, ← hm2]
  have z1 : 0 ≤ m1 := g1.2.2
  have z2 : 0 ≤ m2 := g2.2.2
  have y1 : m1 ≤ (l1.length : Int) := g1.1
  have y2 : m2 ≤ (l2.length : Int) := g2.1
  simp only [z1, z2, y1, y2, if_true]
  obtain ⟨a, ha⟩ : ∃ a, a = l1.take m1.toNat := ⟨_, rfl⟩
  obtain ⟨b, hb⟩ : ∃ b, b = l2.take m2.toNat := ⟨_, rfl⟩
  have la : a.length ≤ 1000 := by rw [ha, List.length_take]; omega
  have lb : b.length ≤ 1000 := by rw [hb, List.length_take]; omega
  have hba : isBytes a := by rw [ha]; exact fun x hx => hb1 x (List.mem_of_mem_take hx)
  have hbb : isBytes b := by rw [hb]; exact fun x hx => hb2 x (List.mem_of_mem_take hx)
  have hbab : isBytes (a ++ b) := fun x hx => by
    rcases List.mem_append.mp hx with h | h
    · exact hba x h
    · exact hbb x h
  rw [← ha, ← hb]
  have hlab : (a ++ b).length ≤ 2000 := by rw [List.length_append]; omega
  obtain ⟨cs, r, hT⟩ := text_of hba
  obtain ⟨ds, q, hU⟩ := text_of hbb
  obtain ⟨es, p, hV⟩ := text_of hbab
  refine Ev.bind (check_eq hT hba (by omega)) (Ev.bind (check_eq hU hbb (by omega)) ?_)
  rw [copy_eq a (by omega)]
  have s : a.length + b.length < 140737488355328 := by omega
  simp only [Option.bind_some, s, if_true]
  by_cases hr : err r = 0
  · obtain rfl := (err_zero hT).mp hr
    have hW := Text.append hT hU
    refine Ev.bind (check_eq hW hbab (by omega)) ?_
    have e0 : err [] = 0 := rfl
    simp only [e0, if_true]
    refine Ev.bind (count_eq hT hba (by omega)) (Ev.bind (count_eq hU hbb (by omega)) (Ev.bind (count_eq hW hbab (by omega)) ?_))
    have ea : a = encs cs := by have := hT.eq; simpa using this
    have l1 := encs_len cs
    have l2 := encs_len ds
    have lq : b.length = (encs ds).length + q.length := by rw [hU.eq]; simp
    rw [← ea] at l1
    have w1 : wrap64 ((a.length : Int) + ((encs ds).length : Int)) = ((encs (cs ++ ds)).length : Int) := by
      rw [encs_append, List.length_append, ← ea]; unfold wrap64; omega
    simp only [w1, if_true]
    by_cases hq : err q = 0
    · have w2 : wrap64 ((cs.length : Int) + (ds.length : Int)) = ((cs ++ ds).length : Int) := by
        rw [List.length_append]; unfold wrap64; omega
      simp only [hq, e0, if_true, w2, beq_self_eq_true]
      exact Ev.now _
    · simp only [hq, if_false]
      exact Ev.now _
  · refine Ev.bind (check_eq hV hbab (by omega)) ?_
    simp only [hr, if_false]
    exact Ev.now _
end Go.Proofs.Ytifmnjobapegeaa.Pure
