/- Encode answers as the chapter says, of every number, and the answer is memory of its own. -/
import Derived.Test.YtifmnjobapegeaaLibA
import Derived.Test.YtifmnjobapegeaaPAllx9
namespace Go.Proofs.Ytifmnjobapegeaa.Pure
open Go.RowKit Go.Proofs.Ytifmnjobapegeaa.PAll Go.Proofs.YtifmnjobapegeaaW.PrintWords Go.Proofs.YtifmnjobapegeaaW.PrintLast

theorem RunesEncode : colophonlaw01_RunesEncode.Pure := by
  intro c hc
  have hw := wf64 hc
  refine Ev.rounds ?_
  obtain ⟨x, e, hx, hxl⟩ : ∃ x e, runes_Encode.f c = some (x, e) ∧ x.length ≤ 4 := by
    by_cases h : isCh c
    · exact ⟨_, _, encode_ch h, (enc_pos c).2⟩
    · exact ⟨_, _, encode_no h, by simp⟩
  have hx2 : colophonref01_Encode.f c = some (x, e) := by rw [refEncode c hw]; exact hx
  unfold colophonlaw01_RunesEncode.f
  simp only [hx, hx2, Option.bind_some]
  refine Ev.bind (eqBytes_self x (by omega)) ?_
  simp only [if_true, bne_self_eq_false]
  have L : ∀ (d : Nat) (i : Nat) (y : List Int), y.length = x.length → i + d = x.length → Ev (fun k => colophonlaw01_RunesEncode.l0 k c y x (i : Int)) true := by
    intro d
    induction d with
    | zero =>
      intro i y hy hi
      refine Ev.step (f := fun k => (colophonref00_EqBytes.f k x x).bind fun t => if t = true then ((colophonlaw01_works.f k).bind fun t => some t) else some false) (fun k => ?_) ?_
      · simp only [colophonlaw01_RunesEncode.l0]
        rw [if_neg (by omega), hx]; rfl
      · refine Ev.bind (eqBytes_self x (by omega)) ?_
        simp only [if_true]
        exact Ev.bind works_true (Ev.now _)
    | succ d ih =>
      intro i y hy hi
      refine Ev.step (f := fun k => colophonlaw01_RunesEncode.l0 k c (y.set ((i : Int)).toNat 0) x ((i + 1 : Nat) : Int)) (fun k => ?_) (ih (i + 1) _ (by simp [hy]) (by omega))
      simp only [colophonlaw01_RunesEncode.l0]
      rw [if_pos (by omega), if_pos (by omega), show wrap64 ((i : Int) + 1) = ((i + 1 : Nat) : Int) by unfold wrap64; omega]
  refine Ev.step (f := fun k => colophonlaw01_RunesEncode.l0 k c x x 0) (fun k => ?_) (L x.length 0 x rfl (by omega))
  simp only [colophonlaw01_RunesEncode.j0, Bool.false_eq_true, if_false]

end Go.Proofs.Ytifmnjobapegeaa.Pure
