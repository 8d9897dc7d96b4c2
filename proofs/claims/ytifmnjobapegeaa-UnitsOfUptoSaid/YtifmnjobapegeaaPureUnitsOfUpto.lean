/- Of and Of16 answer as the chapter says, of bytes that are together at most 1048576; the answer is memory of its own. -/
import Derived.Test.YtifmnjobapegeaaLibM
import Derived.Test.YtifmnjobapegeaaPAllx41
namespace Go.Proofs.Ytifmnjobapegeaa.Pure
open Go.RowKit Go.Proofs.Ytifmnjobapegeaa.PAll Go.Proofs.YtifmnjobapegeaaW.PrintWords Go.Proofs.YtifmnjobapegeaaW.PrintLast

theorem of_zeros (b : List Int) (hs : b.length ≤ 1048576) (d : Nat) : ∀ (i : Nat) (x : List Int), x.length ≤ 1048576 → i + d = x.length →
    Ev (fun k => colophonlaw02_UnitsOf.l0 k b b x (i : Int)) true := by
  induction d with
  | zero =>
    intro i x hx hi
    refine Ev.step (f := fun k => (colophonref00_EqBytes.f k b b).bind fun t => if t = true then ((colophonlaw02_works.f k).bind fun t => some t) else some false) (fun k => ?_) ?_
    · simp only [colophonlaw02_UnitsOf.l0]
      rw [if_neg (by omega)]
    · refine Ev.bind (eqBytes_self b (by omega)) ?_
      simp only [if_true]
      exact Ev.bind unworks_true (Ev.now _)
  | succ d ih =>
    intro i x hx hi
    refine Ev.step (f := fun k => colophonlaw02_UnitsOf.l0 k b b (x.set ((i : Int)).toNat 0) ((i + 1 : Nat) : Int)) (fun k => ?_) (ih (i + 1) _ (by simpa using hx) (by simp; omega))
    simp only [colophonlaw02_UnitsOf.l0]
    rw [if_pos (by omega), if_pos (by omega), show wrap64 ((i : Int) + 1) = ((i + 1 : Nat) : Int) by unfold wrap64; omega]
/-- The plain law, where what comes in is of bulk at most 1048576. -/
theorem UnitsOfUpto (l : List Int) (hs : l.length ≤ 1048576) (hw : ∀ x ∈ l, (Lit.int .u8 x).wf = true) : ∃ k, colophonlaw02_UnitsOf.f k l = some true := by
  have hb := bytes_of hw
  obtain ⟨cs, r, hT⟩ := text_of hb
  refine Ev.rounds ?_
  unfold colophonlaw02_UnitsOf.f
  rw [copy_eq l (by omega)]
  simp only [Option.bind_some]
  refine Ev.bind (of_eq hT hb (by omega)) (Ev.bind (refOf_eq hT hb (by omega)) (Ev.bind (of16_eq hT hb (by omega)) (Ev.bind (refOf16_eq hT hb (by omega)) ?_)))
  simp only [if_true]
  obtain ⟨x, hx⟩ : ∃ x, x = (if err r = 0 then us cs else []) := ⟨_, rfl⟩
  have hxl : x.length ≤ 1048576 := by
    rw [hx]
    split
    · have h1 := us_encs hT.chars
      have h2 : l.length = (encs cs).length + r.length := by rw [hT.eq]; simp
      omega
    · simp
  rw [← hx]
  refine Ev.bind (same_self x (by omega)) ?_
  simp only [if_true, bne_self_eq_false]
  refine Ev.step (f := fun k => colophonlaw02_UnitsOf.l0 k l l x ((0 : Nat) : Int)) (fun k => ?_) (of_zeros l hs x.length 0 x hxl (by omega))
  simp only [colophonlaw02_UnitsOf.j0, Bool.false_eq_true, if_false]; rfl
end Go.Proofs.Ytifmnjobapegeaa.Pure
