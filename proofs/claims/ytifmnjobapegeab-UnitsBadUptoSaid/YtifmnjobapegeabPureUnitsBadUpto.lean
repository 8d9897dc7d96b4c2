/- What is no text is told so, by all, of bytes that are together at most 1048576. -/
import Derived.Test.YtifmnjobapegeabLibV
import Derived.Test.YtifmnjobapegeabLibW
import Derived.Test.YtifmnjobapegeabPAllx34
namespace Go.Proofs.Ytifmnjobapegeab.Pure
open Go.RowKit Go.Proofs.Ytifmnjobapegeab.PAll Go.Proofs.YtifmnjobapegeabW.PrintWords Go.Proofs.YtifmnjobapegeabW.PrintLast

theorem bring_big (a : Int) : ∃ r, colophonref00_Bring.f a 1099511627776 = some r ∧ 0 ≤ r ∧ r < 1099511627776 := by
  unfold colophonref00_Bring.f
  rw [if_neg (by omega), if_neg (by omega)]
  have h1 := Int.tmod_lt_of_pos a (b := 1099511627776) (by omega)
  have h2 := Int.lt_tmod_of_pos a (b := 1099511627776) (by omega)
  by_cases h : Int.tmod a 1099511627776 < 0
  · rw [if_pos h]
    refine ⟨_, rfl, ?_, ?_⟩ <;> unfold wrap64 <;> omega
  · rw [if_neg h]
    exact ⟨_, rfl, by omega, h1⟩
/-- The plain law, where what comes in is of bulk at most 1048576. -/
theorem UnitsBadUpto (l : List Int) (n : Int) (hs : l.length ≤ 1048576) (hw : ∀ x ∈ l, (Lit.int .u8 x).wf = true) (_hn : (Lit.int .i64 n).wf = true) : ∃ k, colophonlaw02_UnitsBad.f k l n = some true := by
  have hb := bytes_of hw
  obtain ⟨cs, r, hT⟩ := text_of hb
  obtain ⟨p, hp, hp0, hp1⟩ := bring_big n
  refine Ev.rounds ?_
  unfold colophonlaw02_UnitsBad.f
  refine Ev.bind unworks_true ?_
  simp only [if_true]
  refine Ev.bind (check_eq hT hb (by omega)) (Ev.bind (of_eq hT hb (by omega)) (Ev.bind (of16_eq hT hb (by omega)) ?_))
  rw [hp]
  simp only [Option.bind_some]
  refine Ev.bind (offset_eq hT hb (by omega) (n := p) (by omega)) ?_
  unfold offs
  have h0 : ¬ p < 0 := by omega
  by_cases he : err r = 0
  · simp only [he, h0, if_true, if_false]; exact Ev.now _
  · simp only [he, if_true, if_false]; exact Ev.now _
end Go.Proofs.Ytifmnjobapegeab.Pure
