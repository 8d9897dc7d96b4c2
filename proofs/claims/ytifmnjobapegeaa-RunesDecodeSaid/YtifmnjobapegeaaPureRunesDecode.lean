/- Decode answers as the chapter says, of all bytes and places; what is handed in stays. -/
import Derived.Test.YtifmnjobapegeaaLibD
import Derived.Test.YtifmnjobapegeaaPAllx14
namespace Go.Proofs.Ytifmnjobapegeaa.Pure
open Go.RowKit Go.Proofs.Ytifmnjobapegeaa.PAll Go.Proofs.YtifmnjobapegeaaW.PrintWords Go.Proofs.YtifmnjobapegeaaW.PrintLast

theorem RunesDecode : colophonlaw01_RunesDecode.Pure := by
  intro l i hl hl2 hb hi
  have hb' := bytes_of hb
  refine Ev.rounds ?_
  obtain ⟨x, hx, hy⟩ : ∃ x, Ev (fun k => runes_Decode.f k l i) x ∧ Ev (fun k => colophonref01_Decode.f k l i) x := by
    by_cases h : i < 0 ∨ (l.length : Int) ≤ i
    · exact ⟨_, decode_out h, refDecode_out h⟩
    · exact ⟨_, decode_in (by omega) (by omega) hb', refDecode_in (by omega) (by omega) hb'⟩
  unfold colophonlaw01_RunesDecode.f
  rw [copy_eq l (by omega)]
  simp only [Option.bind_some]
  refine Ev.bind hx (Ev.bind hy ?_)
  simp only [if_true]
  refine Ev.bind (eqBytes_self l (by omega)) ?_
  simp only [if_true]
  exact Ev.bind works_true (Ev.now _)

end Go.Proofs.Ytifmnjobapegeaa.Pure
