/- The statements' own helpers: the text of characters, units held against units, the chapter's text. -/
import Derived.Test.YtifmnjobapegeabLibV
import Derived.Test.YtifmnjobapegeabPAllx18
import Derived.Test.YtifmnjobapegeabPAllx22
namespace Go.Proofs.Ytifmnjobapegeab.Pure
open Go.RowKit Go.Proofs.Ytifmnjobapegeab.PAll Go.Proofs.YtifmnjobapegeabW.PrintWords Go.Proofs.YtifmnjobapegeabW.PrintLast

theorem same_l0 (a b : List Int) (hl : a.length = b.length) (hs : a.length ≤ 140737488355328) (d : Nat) : ∀ i : Nat, i + d = a.length →
    Ev (fun k => colophonref02_Same.l0 k a b (i : Int)) (decide (a.drop i = b.drop i)) := by
  induction d with
  | zero =>
    intro i hi
    refine Ev.step (f := fun _ => some true) (fun k => ?_) ?_
    · simp only [colophonref02_Same.l0]; rw [if_neg (by omega)]
    · rw [List.drop_of_length_le (by omega), List.drop_of_length_le (by omega)]; simp; exact Ev.now _
  | succ d ih =>
    intro i hi
    have ha : i < a.length := by omega
    have hb : i < b.length := by omega
    rw [drop_cons ha, drop_cons hb]
    have w1 : wrap64 ((i : Int) + 1) = ((i + 1 : Nat) : Int) := by unfold wrap64; omega
    by_cases e : a.getD i 0 = b.getD i 0
    · refine Ev.step (f := fun k => colophonref02_Same.l0 k a b ((i + 1 : Nat) : Int)) (fun k => ?_) ?_
      · simp only [colophonref02_Same.l0]
        rw [if_pos (by omega), if_pos (by omega), if_pos (by omega), if_pos (by simpa [rd] using e), w1]
      · have := ih (i + 1) (by omega)
        rw [e]
        simpa using this
    · refine Ev.step (f := fun _ => some false) (fun k => ?_) ?_
      · simp only [colophonref02_Same.l0]
        rw [if_pos (by omega), if_pos (by omega), if_pos (by omega), if_neg (by simpa [rd] using e)]
      · have : ¬ (a.getD i 0 :: a.drop (i + 1) = b.getD i 0 :: b.drop (i + 1)) := by intro h; injection h; contradiction
        rw [decide_eq_false this]; exact Ev.now _
theorem same_eq (a b : List Int) (hs : a.length ≤ 140737488355328) : Ev (fun k => colophonref02_Same.f k a b) (decide (a = b)) := by
  unfold colophonref02_Same.f
  by_cases hl : (a.length : Int) = (b.length : Int)
  · simp only [hl, if_true]
    have := same_l0 a b (by omega) hs a.length 0 (by omega)
    simpa using this
  · simp only [hl, if_false]
    have : ¬ a = b := by intro e; rw [e] at hl; exact hl rfl
    rw [decide_eq_false this]; exact Ev.now _
theorem same_self (a : List Int) (hs : a.length ≤ 140737488355328) : Ev (fun k => colophonref02_Same.f k a a) true := by
  have := same_eq a a hs
  simpa using this
theorem unworks_true : Ev (fun k => colophonlaw02_works.f k) true := Ev.of colophonlaw02_works.mono (k := 30) (by decide +kernel)
theorem encs_bytes {cs : List Int} (h : ∀ c ∈ cs, isCh c) : isBytes (encs cs) := by
  intro x hx
  obtain ⟨c, hc', hx'⟩ := List.mem_flatMap.mp hx
  exact enc_bytes (h c hc') x hx'
theorem us_units {cs : List Int} (h : ∀ c ∈ cs, isCh c) : isUnits (us cs) := by
  intro x hx
  obtain ⟨c, hc', hx'⟩ := List.mem_flatMap.mp hx
  exact un_u16 (h c hc') x hx'
theorem wf16 {a : Int} (h : (Lit.int .u16 a).wf = true) : 0 ≤ a ∧ a ≤ 65535 := by
  simpa [Lit.wf, IntKind.min, IntKind.max, IntKind.signed, IntKind.bits] using h
theorem units_of {l : List Int} (h : ∀ x ∈ l, (Lit.int .u16 x).wf = true) : isUnits l := fun x hx => wf16 (h x hx)
theorem err_nil : err [] = 0 := rfl
end Go.Proofs.Ytifmnjobapegeab.Pure
