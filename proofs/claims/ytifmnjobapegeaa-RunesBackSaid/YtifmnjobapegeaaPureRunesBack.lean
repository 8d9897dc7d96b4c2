/- What Encode writes Decode reads, wherever it stands. -/
import Derived.Test.YtifmnjobapegeaaLibB
import Derived.Test.YtifmnjobapegeaaPAllx16
namespace Go.Proofs.Ytifmnjobapegeaa.Pure
open Go.RowKit Go.Proofs.Ytifmnjobapegeaa.PAll Go.Proofs.YtifmnjobapegeaaW.PrintWords Go.Proofs.YtifmnjobapegeaaW.PrintLast

theorem isBytes_append {a b : List Int} (ha : isBytes a) (hb : isBytes b) : isBytes (a ++ b) := fun x hx => by
  rcases List.mem_append.mp hx with h | h
  · exact ha x h
  · exact hb x h
theorem isBytes_take {a : List Int} (ha : isBytes a) (n : Nat) : isBytes (a.take n) := fun x hx => ha x (List.mem_of_mem_take hx)
theorem isBytes_drop {a : List Int} (ha : isBytes a) (n : Nat) : isBytes (a.drop n) := fun x hx => ha x (List.mem_of_mem_drop hx)
theorem character_eq (c : Int) : colophonlaw01_character.f c = some (decide (isCh c)) := by
  unfold colophonlaw01_character.f
  by_cases h1 : c ≥ 0
  · by_cases h2 : c ≤ 1114111
    · by_cases h3 : c < 55296
      · simp only [h1, h2, h3, if_true]
        rw [decide_eq_true (show isCh c by unfold isCh; omega)]
      · simp only [h1, h2, h3, if_true, if_false]
        by_cases h4 : c > 57343
        · rw [decide_eq_true h4, decide_eq_true (show isCh c by unfold isCh; omega)]
        · rw [decide_eq_false h4, decide_eq_false (show ¬ isCh c by unfold isCh; omega)]
    · simp only [h1, h2, if_true, if_false]
      rw [decide_eq_false (show ¬ isCh c by unfold isCh; omega)]
  · simp only [h1, if_false]
    rw [decide_eq_false (show ¬ isCh c by unfold isCh; omega)]
theorem mn_le (a b : Int) : mn a b ≤ a ∧ mn a b ≤ b ∧ (0 ≤ a → 0 ≤ b → 0 ≤ mn a b) := by unfold mn; split <;> omega

theorem RunesBack : colophonlaw01_RunesBack.Pure := by
  intro c l1 l2 hc h1 h1' b1 h2 h2' b2
  have hb1 := bytes_of b1
  have hb2 := bytes_of b2
  refine Ev.rounds ?_
  unfold colophonlaw01_RunesBack.f
  refine Ev.bind works_true ?_
  simp only [if_true]
  by_cases hch : isCh c
  · rw [encode_ch hch]
    simp only [Option.bind_some, if_true]
    obtain ⟨m1, hm1⟩ : ∃ m, m = mn (l1.length : Int) 1000 := ⟨_, rfl⟩
    obtain ⟨m2, hm2⟩ : ∃ m, m = mn (l2.length : Int) 1000 := ⟨_, rfl⟩
    have g1 := mn_le (l1.length : Int) 1000
    have g2 := mn_le (l2.length : Int) 1000
    rw [← hm1] at g1 ⊢
    rw [← hm2] at g2 ⊢
    have hp := enc_pos c
    have z1 : 0 ≤ m1 := by omega
    have z2 : 0 ≤ m2 := by omega
    have y1 : m1 ≤ (l1.length : Int) := g1.1
    have y2 : m2 ≤ (l2.length : Int) := g2.1
    have t1 : (l1.take m1.toNat).length ≤ 1000 := by simp; omega
    have t2 : (l2.take m2.toNat).length ≤ 1000 := by simp; omega
    have hcp := copy_eq (l1.take m1.toNat) (by omega)
    simp only [z1, z2, y1, y2, if_true]
    rw [hcp]
    simp only [Option.bind_some]
    have s1 : (l1.take m1.toNat).length + (enc c).length < 140737488355328 := by omega
    have s2 : (l1.take m1.toNat ++ enc c).length + (l2.take m2.toNat).length < 140737488355328 := by rw [List.length_append]; omega
    simp only [s1, s2, if_true]
    obtain ⟨a, ha⟩ : ∃ a, a = l1.take m1.toNat := ⟨_, rfl⟩
    obtain ⟨b, hb⟩ : ∃ b, b = l2.take m2.toNat := ⟨_, rfl⟩
    rw [← ha, ← hb]
    have hba : isBytes a := by rw [ha]; exact isBytes_take hb1 _
    have hbb : isBytes b := by rw [hb]; exact isBytes_take hb2 _
    have hd := decode_in (l := a ++ enc c ++ b) (i := (a.length : Int)) (by omega) (by simp; omega) (isBytes_append (isBytes_append hba (enc_bytes hch)) hbb)
    have e : (a ++ enc c ++ b).drop ((a.length : Int)).toNat = enc c ++ b := by simp
    rw [e, dec_enc hch] at hd
    refine Ev.bind hd ?_
    have k1 : ((enc c).length : Int) ≥ 1 := by omega
    have k2 : ((enc c).length : Int) ≤ 4 := by omega
    simp only [if_true, k1, k2]
    rw [character_eq, decide_eq_true hch]
    exact Ev.now _
  · rw [encode_no hch]
    simp only [Option.bind_some]
    rw [character_eq, decide_eq_false hch]
    exact Ev.now _
end Go.Proofs.Ytifmnjobapegeaa.Pure
