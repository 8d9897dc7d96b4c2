/- No character's bytes are the begin of another one's; bytes are in the order of their characters. -/
import Derived.Test.YtifmnjobapegeaaLibB
import Derived.Test.YtifmnjobapegeaaPAllx18
namespace Go.Proofs.Ytifmnjobapegeaa.Pure
open Go.RowKit Go.Proofs.Ytifmnjobapegeaa.PAll Go.Proofs.YtifmnjobapegeaaW.PrintWords Go.Proofs.YtifmnjobapegeaaW.PrintLast

/-- What the law finds of two rows from place i on. -/
def first (c d : Int) : List Int → List Int → Bool
  | x :: a, y :: b => if x = y then first c d a b else (decide (x < y)) == (decide (c < d))
  | a, b => decide (c = d ∧ a.length = b.length)
theorem first_enc {c d : Int} (hc : isCh c) (hd : isCh d) : first c d (enc c) (enc d) = true := by
  unfold isCh at hc hd
  have key : ∀ {p q : Bool}, (p = true ↔ q = true) → (p == q) = true := by
    intro p q h; cases p <;> cases q <;> simp at h ⊢
  rcases enc_cases c with ⟨b, e⟩ | ⟨b0, b, e⟩ | ⟨b0, b, e⟩ | ⟨b, e⟩ <;> rcases enc_cases d with ⟨b', e'⟩ | ⟨b0', b', e'⟩ | ⟨b0', b', e'⟩ | ⟨b', e'⟩ <;> rw [e, e'] <;> simp only [first]
  all_goals (repeat' split)
  all_goals first
    | (exfalso; omega)
    | (refine key ?_; rw [decide_eq_true_iff, decide_eq_true_iff]; omega)
    | (rw [decide_eq_true_iff]; refine ⟨?_, trivial⟩; omega)
    | (rw [decide_eq_true_iff]; refine ⟨?_, rfl⟩; omega)
    | exact beq_self_eq_true _
theorem loop_first {c d : Int} (x y : List Int) (hx : x.length ≤ 4) (hy : y.length ≤ 4) (n : Nat) : ∀ i : Nat, i + n = x.length → i ≤ y.length → first c d (x.drop i) (y.drop i) = true → Ev (fun k => colophonlaw01_RunesPrefix.l0 k c d x y (i : Int)) true := by
  have stop : ∀ i : Nat, ¬ (i < x.length ∧ i < y.length) → c = d → x.length = y.length → Ev (fun k => colophonlaw01_RunesPrefix.l0 k c d x y (i : Int)) true := by
    intro i hi e1 e2
    refine Ev.step (f := fun k => colophonlaw01_RunesPrefix.j2 k c d x y (i : Int) false) (fun k => ?_) ?_
    · simp only [colophonlaw01_RunesPrefix.l0]
      by_cases h : (i : Int) < (x.length : Int)
      · rw [if_pos h, decide_eq_false (by omega)]
      · rw [if_neg h]
    · refine Ev.step (f := fun _ => some true) (fun k => ?_) (Ev.now _)
      simp only [colophonlaw01_RunesPrefix.j2, Bool.false_eq_true, if_false]
      rw [if_pos e1, e2]; simp
  induction n with
  | zero =>
    intro i hi hy hf
    have : x.drop i = [] := by rw [List.drop_eq_nil_iff]; omega
    rw [this] at hf
    simp only [first, decide_eq_true_iff, List.length_nil, List.length_drop] at hf
    exact stop i (by omega) hf.1 (by omega)
  | succ n ih =>
    intro i hi hy' hf
    have hxi : i < x.length := by omega
    rw [drop_cons hxi] at hf
    by_cases hyi : i < y.length
    · rw [drop_cons hyi] at hf
      refine Ev.step (f := fun k => colophonlaw01_RunesPrefix.j2 k c d x y (i : Int) true) (fun k => by simp only [colophonlaw01_RunesPrefix.l0]; rw [if_pos (by omega), decide_eq_true (by omega)]) ?_
      have head : ∀ k, colophonlaw01_RunesPrefix.j2 (k + 1) c d x y (i : Int) true = if rd x (i : Int) = rd y (i : Int) then colophonlaw01_RunesPrefix.l0 k c d x y ((i + 1 : Nat) : Int) else some ((decide (rd x (i : Int) < rd y (i : Int))) == (decide (c < d))) := by
        intro k
        simp only [colophonlaw01_RunesPrefix.j2, if_true]
        rw [if_pos (by omega), if_pos (by omega), if_pos (by omega), show wrap64 ((i : Int) + 1) = ((i + 1 : Nat) : Int) by unfold wrap64; omega]
      refine Ev.step head ?_
      have ex : rd x (i : Int) = x.getD i 0 := by simp [rd]
      have ey : rd y (i : Int) = y.getD i 0 := by simp [rd]
      rw [ex, ey]
      simp only [first] at hf
      by_cases e : x.getD i 0 = y.getD i 0
      · rw [if_pos e] at hf
        simp only [e, if_true]
        exact ih (i + 1) (by omega) (by omega) hf
      · rw [if_neg e] at hf
        simp only [e, if_false]
        rw [hf]; exact Ev.now _
    · have : y.drop i = [] := by rw [List.drop_eq_nil_iff]; omega
      rw [this] at hf
      simp only [first, decide_eq_true_iff, List.length_nil, List.length_cons] at hf
      omega

theorem RunesPrefix : colophonlaw01_RunesPrefix.Pure := by
  intro c d hc hd
  refine Ev.rounds ?_
  unfold colophonlaw01_RunesPrefix.f
  refine Ev.bind works_true ?_
  simp only [if_true]
  have out : ∀ x y, Ev (fun k => colophonlaw01_RunesPrefix.j0 k c d x y true) true := fun x y =>
    Ev.step (f := fun _ => some true) (fun k => by simp only [colophonlaw01_RunesPrefix.j0, if_true]) (Ev.now _)
  by_cases h : isCh c
  · rw [encode_ch h]
    simp only [Option.bind_some, if_true]
    by_cases h' : isCh d
    · rw [encode_ch h']
      simp only [Option.bind_some]
      refine Ev.step (f := fun k => colophonlaw01_RunesPrefix.l0 k c d (enc c) (enc d) ((0 : Nat) : Int)) (fun k => ?_) (loop_first (enc c) (enc d) (enc_pos c).2 (enc_pos d).2 _ 0 (Nat.zero_add _) (by omega) (by simpa using first_enc h h'))
      simp only [colophonlaw01_RunesPrefix.j0, bne_self_eq_false, Bool.false_eq_true, if_false]; rfl
    · rw [encode_no h']
      simp only [Option.bind_some]
      exact out _ _
  · rw [encode_no h]
    simp only [Option.bind_some]
    have e10 : ¬ (10 : Int) = 0 := by omega
    by_cases h' : isCh d
    · rw [encode_ch h']
      simp only [Option.bind_some, e10, if_false]
      exact out _ _
    · rw [encode_no h']
      simp only [Option.bind_some, e10, if_false]
      exact out _ _
end Go.Proofs.Ytifmnjobapegeaa.Pure
