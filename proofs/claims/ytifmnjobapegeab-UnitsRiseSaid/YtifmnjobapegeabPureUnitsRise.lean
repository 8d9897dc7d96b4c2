/- Offset does not fall, as units rise. -/
import Derived.Test.YtifmnjobapegeabLibX
import Derived.Test.YtifmnjobapegeabPAllx32
namespace Go.Proofs.Ytifmnjobapegeab.Pure
open Go.RowKit Go.Proofs.Ytifmnjobapegeab.PAll Go.Proofs.YtifmnjobapegeabW.PrintWords Go.Proofs.YtifmnjobapegeabW.PrintLast

theorem bring_1000 (a : Int) : ∃ r, colophonref00_Bring.f a 1000 = some r ∧ 0 ≤ r ∧ r < 1000 := by
  unfold colophonref00_Bring.f
  rw [if_neg (by omega), if_neg (by omega)]
  have h1 := Int.tmod_lt_of_pos a (b := 1000) (by omega)
  have h2 := Int.lt_tmod_of_pos a (b := 1000) (by omega)
  by_cases h : Int.tmod a 1000 < 0
  · rw [if_pos h]
    refine ⟨_, rfl, ?_, ?_⟩ <;> unfold wrap64 <;> omega
  · rw [if_neg h]
    exact ⟨_, rfl, by omega, h1⟩
theorem UnitsRise : colophonlaw02_UnitsRise.Pure := by
  intro l n m _ _ _ _ _
  obtain ⟨cs, hc, hcn, hl, hul, hT, hb, ht⟩ := textl_eq l
  obtain ⟨p, hp, hp0, hp1⟩ := bring_1000 n
  obtain ⟨q, hq, hq0, hq1⟩ := bring_1000 m
  refine Ev.rounds ?_
  unfold colophonlaw02_UnitsRise.f
  refine Ev.bind unworks_true ?_
  simp only [if_true]
  refine Ev.bind ht ?_
  rw [hp, hq]
  simp only [Option.bind_some]
  obtain ⟨x, hx⟩ : ∃ x, x = mn p q := ⟨_, rfl⟩
  obtain ⟨y, hy⟩ : ∃ y, y = mx p q := ⟨_, rfl⟩
  have hxy : 0 ≤ x ∧ x ≤ y ∧ y < 1000 := by rw [hx, hy]; unfold mn mx; split <;> split <;> omega
  rw [← hx, ← hy]
  have h0 : ¬ x < 0 := by omega
  have h1 : ¬ y < 0 := by omega
  have h2 : ¬ (9223372036854775807 : Int) < 0 := by omega
  refine Ev.bind (offset_eq hT hb (by omega) (n := x) (by omega)) (Ev.bind (offset_eq hT hb (by omega) (n := y) (by omega)) (Ev.bind (offset_eq hT hb (by omega) (n := 9223372036854775807) (by omega)) ?_))
  unfold offs
  have hm := many_mono cs x y hxy.2.1
  have pre : encs (cs.take (many cs y)) = encs (cs.take (many cs x)) ++ encs ((cs.take (many cs y)).drop (many cs x)) := by
    rw [← encs_append]
    congr 1
    have : cs.take (many cs x) = (cs.take (many cs y)).take (many cs x) := by rw [List.take_take]; congr 1; omega
    rw [this, List.take_append_drop]
  have hle : ((encs (cs.take (many cs x))).length : Int) ≤ ((encs (cs.take (many cs y))).length : Int) := by rw [pre, List.length_append]; omega
  have hall : many cs 9223372036854775807 = cs.length := many_all cs _ (by omega)
  simp only [err_nil, if_true, h0, h1, h2, if_false, hle, hall, List.take_length, beq_self_eq_true]
  exact Ev.now _
end Go.Proofs.Ytifmnjobapegeab.Pure
