/- Ahead of Offset's place there are at most so many units; a character more would be too many, or there is none. -/
import Derived.Test.YtifmnjobapegeabLibX
import Derived.Test.YtifmnjobapegeabPAllx29
namespace Go.Proofs.Ytifmnjobapegeab.Pure
open Go.RowKit Go.Proofs.Ytifmnjobapegeab.PAll Go.Proofs.YtifmnjobapegeabW.PrintWords Go.Proofs.YtifmnjobapegeabW.PrintLast

theorem UnitsEnds : colophonlaw02_UnitsEnds.Pure := by
  intro l n _ _ _ hn
  have hw := wf64 hn
  obtain ⟨cs, hc, hcn, hl, hul, hT, hb, ht⟩ := textl_eq l
  refine Ev.rounds ?_
  unfold colophonlaw02_UnitsEnds.f
  refine Ev.bind unworks_true ?_
  simp only [if_true]
  have O := offset_eq hT hb (by omega) (n := n) (by omega)
  refine Ev.bind ht (Ev.bind O ?_)
  unfold offs
  simp only [err_nil, if_true]
  by_cases h0 : n < 0
  · simp only [h0, if_true]; exact Ev.now _
  · simp only [h0, if_false]
    obtain ⟨m, hm⟩ : ∃ m, m = many cs n := ⟨_, rfl⟩
    rw [← hm]
    have hml := many_le cs n
    have hmu := many_units cs n (by omega)
    rw [← hm] at hml hmu
    have split : encs cs = encs (cs.take m) ++ encs (cs.drop m) := by rw [← encs_append, List.take_append_drop]
    have len : (encs cs).length = (encs (cs.take m)).length + (encs (cs.drop m)).length := by rw [split, List.length_append]
    obtain ⟨a, ha⟩ : ∃ a, a = (encs (cs.take m)).length := ⟨_, rfl⟩
    rw [← ha]
    have g0 : ¬ (a : Int) < 0 := by omega
    have g1 : ¬ (a : Int) > ((encs cs).length : Int) := by omega
    simp only [g0, g1, if_false, if_true, decide_false]
    have htake : (encs cs).take a = encs (cs.take m) := by rw [split, ha]; simp
    have hcm : ∀ c ∈ cs.take m, isCh c := fun c h => hc c (List.mem_of_mem_take h)
    have T1 : Text (encs (cs.take m)) (cs.take m) [] := Text.of_chars hcm
    have O1 := of_eq T1 (encs_bytes hcm) (by omega)
    simp only [err_nil, if_true] at O1
    have z0 : (0 : Int) ≤ (a : Int) := by omega
    have z1 : (a : Int) ≤ ((encs cs).length : Int) := by omega
    have head : ∀ k, colophonlaw02_UnitsEnds.j0 (k + 1) n (encs cs) (a : Int) false = (units_Of.f k (encs (cs.take m))).bind fun x => if x.2 = 0 then colophonlaw02_UnitsEnds.j1 k n (encs cs) (a : Int) (decide (x.1 > n)) else colophonlaw02_UnitsEnds.j1 k n (encs cs) (a : Int) true := by
      intro k
      simp only [colophonlaw02_UnitsEnds.j0, Bool.false_eq_true, if_false, z0, z1, if_true, Int.toNat_natCast, htake]
    refine Ev.step head (Ev.bind O1 ?_)
    have g2 : ¬ ((us (cs.take m)).length : Int) > n := by omega
    simp only [if_true, g2, decide_false]
    by_cases hfull : m = cs.length
    · have : (a : Int) = ((encs cs).length : Int) := by rw [ha, hfull, List.take_length]
      refine Ev.step (f := fun _ => some true) (fun k => ?_) (Ev.now _)
      simp only [colophonlaw02_UnitsEnds.j1, Bool.false_eq_true, if_false]
      rw [if_pos this]
    · have hlt : m < cs.length := by omega
      have hnext := many_next cs n (by omega) (by rw [← hm]; exact hlt)
      rw [← hm] at hnext
      have hdrop : cs.drop m = cs.getD m 0 :: cs.drop (m + 1) := drop_cons hlt
      obtain ⟨c, hcd⟩ : ∃ c, c = cs.getD m 0 := ⟨_, rfl⟩
      rw [← hcd] at hdrop
      have hch : isCh c := by
        apply hc
        have : c ∈ cs.drop m := by rw [hdrop]; simp
        exact List.mem_of_mem_drop this
      have hp := enc_pos c
      have e1 : encs (cs.drop m) = enc c ++ encs (cs.drop (m + 1)) := by rw [hdrop, encs_cons]
      have hdl : (encs cs).drop a = enc c ++ encs (cs.drop (m + 1)) := by rw [split, ha, ← e1]; simp
      have ll : (encs (cs.drop m)).length = (enc c).length + (encs (cs.drop (m + 1))).length := by rw [e1, List.length_append]
      have ne : ¬ (a : Int) = ((encs cs).length : Int) := by omega
      have D := decode_in (l := encs cs) (i := (a : Int)) (by omega) (by omega) hb
      rw [Int.toNat_natCast, hdl, dec_enc hch] at D
      have w : wrap64 ((a : Int) + ((enc c).length : Int)) = ((a + (enc c).length : Nat) : Int) := by unfold wrap64; omega
      have z2 : (0 : Int) ≤ ((a + (enc c).length : Nat) : Int) := Int.natCast_nonneg _
      have z3 : ((a + (enc c).length : Nat) : Int) ≤ ((encs cs).length : Int) := by omega
      have htake2 : (encs cs).take (a + (enc c).length) = encs (cs.take (m + 1)) := by
        have e2 : cs.take (m + 1) = cs.take m ++ [c] := by
          rw [List.take_succ_eq_append_getElem hlt, hcd]; simp [List.getD, hlt]
        rw [e2, encs_append, split, e1, ha, show encs [c] = enc c by rw [encs_cons, encs_nil, List.append_nil], ← List.append_assoc, List.take_left' (by rw [List.length_append])]
      have hcm2 : ∀ c ∈ cs.take (m + 1), isCh c := fun c h => hc c (List.mem_of_mem_take h)
      have T2 : Text (encs (cs.take (m + 1))) (cs.take (m + 1)) [] := Text.of_chars hcm2
      have L2 : (encs (cs.take (m + 1))).length ≤ 1200 := by rw [← htake2, List.length_take]; exact Nat.le_trans (Nat.min_le_right _ _) hl
      have O2 := of_eq T2 (encs_bytes hcm2) (Nat.le_trans L2 (by decide))
      simp only [err_nil, if_true] at O2
      have head2 : ∀ k, colophonlaw02_UnitsEnds.j1 (k + 1) n (encs cs) (a : Int) false = (runes_Decode.f k (encs cs) (a : Int)).bind fun x => if 0 ≤ wrap64 ((a : Int) + x.2.1) then (if wrap64 ((a : Int) + x.2.1) ≤ ((encs cs).length : Int) then ((units_Of.f k ((encs cs).take (wrap64 ((a : Int) + x.2.1)).toNat)).bind fun y => if x.2.2 = 0 then (if y.2 = 0 then some (decide (y.1 > n)) else some false) else some false) else none) else none := by
        intro k
        simp only [colophonlaw02_UnitsEnds.j1, Bool.false_eq_true, if_false]
        rw [if_neg ne]
      refine Ev.step head2 (Ev.bind D ?_)
      simp only [w, z2, z3, if_true, Int.toNat_natCast, htake2]
      refine Ev.bind O2 ?_
      simp only [if_true]
      rw [decide_eq_true hnext]; exact Ev.now _
end Go.Proofs.Ytifmnjobapegeab.Pure
