/- The document's Check and Count. -/
import Derived.Test.YtifmnjobapegeaaLibD
import Derived.Test.YtifmnjobapegeaaLibE
import Derived.Test.YtifmnjobapegeaaPAllx23
import Derived.Test.YtifmnjobapegeaaPAllx25
namespace Go.Proofs.Ytifmnjobapegeaa.Pure
open Go.RowKit Go.Proofs.Ytifmnjobapegeaa.PAll Go.Proofs.YtifmnjobapegeaaW.PrintWords Go.Proofs.YtifmnjobapegeaaW.PrintLast

theorem refCheck_loop {l : List Int} (hb : isBytes l) (hs : l.length ≤ 140737488351232) {b cs r : List Int} (h : Text b cs r) : ∀ i : Nat, i ≤ l.length → l.drop i = b →
    Ev (fun k => colophonref01_Check.l0 k l (i : Int)) (((i + (encs cs).length : Nat) : Int), err r) := by
  induction h with
  | done =>
    intro i hi hd
    have : l.length ≤ i := List.drop_eq_nil_iff.mp hd
    refine Ev.step (f := fun _ => some ((i : Int), 0)) (fun k => by simp only [colophonref01_Check.l0]; rw [if_neg (by omega)]) ?_
    simp [encs_nil, err]; exact Ev.now _
  | stop r hr he =>
    intro i hi hd
    have hlt : i < l.length := by
      rcases Nat.lt_or_ge i l.length with h | h
      · exact h
      · exact absurd ((List.drop_eq_nil_iff.mpr h).symm.trans hd).symm hr
    have D := refDecode_in (l := l) (i := (i : Int)) (by omega) (by omega) hb
    rw [Int.toNat_natCast, hd] at D
    refine Ev.step (f := fun k => (colophonref01_Decode.f k l (i : Int)).bind fun x => if x.2.2 = 0 then colophonref01_Check.l0 k l (wrap64 ((i : Int) + x.2.1)) else some ((i : Int), x.2.2)) (fun k => by simp only [colophonref01_Check.l0]; rw [if_pos (by omega)]) (Ev.bind D ?_)
    simp only [he, if_false]
    have : err r = (dec r).2.2 := by unfold err; rw [if_neg hr]
    rw [this]; exact Ev.now _
  | step c b cs r hc _ ih =>
    intro i hi hd
    have hp := enc_pos c
    have hl : l.length - i = (enc c).length + b.length := by rw [← List.length_drop, hd]; simp
    have D := refDecode_in (l := l) (i := (i : Int)) (by omega) (by omega) hb
    rw [Int.toNat_natCast, hd, dec_enc hc] at D
    refine Ev.step (f := fun k => (colophonref01_Decode.f k l (i : Int)).bind fun x => if x.2.2 = 0 then colophonref01_Check.l0 k l (wrap64 ((i : Int) + x.2.1)) else some ((i : Int), x.2.2)) (fun k => by simp only [colophonref01_Check.l0]; rw [if_pos (by omega)]) (Ev.bind D ?_)
    have w : wrap64 ((i : Int) + ((enc c).length : Int)) = ((i + (enc c).length : Nat) : Int) := by unfold wrap64; omega
    simp only [w, if_true]
    have := ih (i + (enc c).length) (by omega) (by rw [← List.drop_drop, hd]; simp)
    rw [encs_cons, List.length_append, ← Nat.add_assoc]
    exact this
theorem refCheck_eq {b cs r : List Int} (h : Text b cs r) (hb : isBytes b) (hs : b.length ≤ 140737488351232) : Ev (fun k => colophonref01_Check.f k b) (((encs cs).length : Int), err r) := by
  have := refCheck_loop hb hs h 0 (by omega) rfl
  unfold colophonref01_Check.f
  simpa using this
theorem refCount_loop {l : List Int} (hb : isBytes l) (hs : l.length ≤ 140737488351232) {b cs r : List Int} (h : Text b cs r) : ∀ i n : Nat, i ≤ l.length → n ≤ i → l.drop i = b →
    Ev (fun k => colophonref01_Count.l0 k l (n : Int) (i : Int)) (if err r = 0 then ((n + cs.length : Nat) : Int) else 0, err r) := by
  induction h with
  | done =>
    intro i n hi hn hd
    have : l.length ≤ i := List.drop_eq_nil_iff.mp hd
    refine Ev.step (f := fun _ => some ((n : Int), 0)) (fun k => by simp only [colophonref01_Count.l0]; rw [if_neg (by omega)]) ?_
    simp [err]; exact Ev.now _
  | stop r hr he =>
    intro i n hi hn hd
    have hlt : i < l.length := by
      rcases Nat.lt_or_ge i l.length with h | h
      · exact h
      · exact absurd ((List.drop_eq_nil_iff.mpr h).symm.trans hd).symm hr
    have D := refDecode_in (l := l) (i := (i : Int)) (by omega) (by omega) hb
    rw [Int.toNat_natCast, hd] at D
    refine Ev.step (f := fun k => (colophonref01_Decode.f k l (i : Int)).bind fun x => if x.2.2 = 0 then colophonref01_Count.l0 k l (wrap64 ((n : Int) + 1)) (wrap64 ((i : Int) + x.2.1)) else some (0, x.2.2)) (fun k => by simp only [colophonref01_Count.l0]; rw [if_pos (by omega)]) (Ev.bind D ?_)
    have : err r = (dec r).2.2 := by unfold err; rw [if_neg hr]
    simp only [he, this, if_false]
    exact Ev.now _
  | step c b cs r hc _ ih =>
    intro i n hi hn hd
    have hp := enc_pos c
    have hl : l.length - i = (enc c).length + b.length := by rw [← List.length_drop, hd]; simp
    have D := refDecode_in (l := l) (i := (i : Int)) (by omega) (by omega) hb
    rw [Int.toNat_natCast, hd, dec_enc hc] at D
    refine Ev.step (f := fun k => (colophonref01_Decode.f k l (i : Int)).bind fun x => if x.2.2 = 0 then colophonref01_Count.l0 k l (wrap64 ((n : Int) + 1)) (wrap64 ((i : Int) + x.2.1)) else some (0, x.2.2)) (fun k => by simp only [colophonref01_Count.l0]; rw [if_pos (by omega)]) (Ev.bind D ?_)
    have w : wrap64 ((i : Int) + ((enc c).length : Int)) = ((i + (enc c).length : Nat) : Int) := by unfold wrap64; omega
    have w2 : wrap64 ((n : Int) + 1) = ((n + 1 : Nat) : Int) := by unfold wrap64; omega
    simp only [w, w2, if_true]
    have := ih (i + (enc c).length) (n + 1) (by omega) (by omega) (by rw [← List.drop_drop, hd]; simp)
    have e2 : n + 1 + cs.length = n + (c :: cs).length := by simp; omega
    rw [e2] at this
    exact this
theorem refCount_eq {b cs r : List Int} (h : Text b cs r) (hb : isBytes b) (hs : b.length ≤ 140737488351232) : Ev (fun k => colophonref01_Count.f k b) (if err r = 0 then ((cs.length : Nat) : Int) else 0, err r) := by
  have := refCount_loop hb hs h 0 0 (by omega) (by omega) rfl
  unfold colophonref01_Count.f
  simpa using this
end Go.Proofs.Ytifmnjobapegeaa.Pure
