/- What Decode reads Encode writes. -/
import Derived.Test.YtifmnjobapegeaaLibB
import Derived.Test.YtifmnjobapegeaaPAllx17
namespace Go.Proofs.Ytifmnjobapegeaa.Pure
open Go.RowKit Go.Proofs.Ytifmnjobapegeaa.PAll Go.Proofs.YtifmnjobapegeaaW.PrintWords Go.Proofs.YtifmnjobapegeaaW.PrintLast

theorem RunesAgain : colophonlaw01_RunesAgain.Pure := by
  intro l i hl hl2 hb hi
  have hb' := bytes_of hb
  have hw := wf64 hi
  refine Ev.rounds ?_
  unfold colophonlaw01_RunesAgain.f
  refine Ev.bind works_true ?_
  simp only [if_true]
  by_cases h : i < 0 ∨ (l.length : Int) ≤ i
  · refine Ev.bind (decode_out h) ?_
    by_cases h0 : i < 0
    · simp only [h0, if_true]; exact Ev.now _
    · have h1 : i ≥ (l.length : Int) := by omega
      simp only [h0, h1, if_true, if_false, decide_true]; exact Ev.now _
  · refine Ev.bind (decode_in (by omega) (by omega) hb') ?_
    have hlen : (l.drop i.toNat).length = l.length - i.toNat := List.length_drop
    have hne : l.drop i.toNat ≠ [] := by intro e; rw [e] at hlen; simp at hlen; omega
    have hs := dec_seen (l.drop i.toNat) hne (fun x hx => hb' x (List.mem_of_mem_drop hx))
    generalize dec (l.drop i.toNat) = d at hs
    have n0 : ¬ i < 0 := by omega
    have n1 : ¬ i ≥ (l.length : Int) := by omega
    cases hs with
    | char c t hc e =>
      have hp := enc_pos c
      have hlt : (l.drop i.toNat).length = (enc c).length + t.length := by rw [e]; simp
      have k1 : ((enc c).length : Int) ≤ wrap64 ((l.length : Int) - i) := by
        have : wrap64 ((l.length : Int) - i) = (l.length : Int) - i := by unfold wrap64; omega
        omega
      have k2 : wrap64 (i + ((enc c).length : Int)) = i + ((enc c).length : Int) := by unfold wrap64; omega
      have k3 : 0 ≤ i := by omega
      have k4 : i ≤ i + ((enc c).length : Int) := by omega
      have k5 : i + ((enc c).length : Int) ≤ (l.length : Int) := by omega
      simp only [if_true]
      rw [encode_ch hc]
      simp only [Option.bind_some, if_true, k1, k2, k3, k4, k5]
      have ee : (l.take (i + ((enc c).length : Int)).toNat).drop i.toNat = enc c := by
        rw [List.drop_take, e]
        have : (i + ((enc c).length : Int)).toNat - i.toNat = (enc c).length := by omega
        rw [this]; simp
      rw [ee]
      exact Ev.bind (eqBytes_self _ (by omega)) (Ev.now _)
    | piece hp => simp only [n0, n1, if_true, if_false, decide_false]; exact Ev.now _
    | none _ _ => simp only [n0, n1, if_true, if_false, decide_false]; exact Ev.now _
end Go.Proofs.Ytifmnjobapegeaa.Pure
