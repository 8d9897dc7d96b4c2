/- A piece is what is left of a character that is cut; with the bytes that lack it is the character. -/
import Derived.Test.YtifmnjobapegeaaLibB
import Derived.Test.YtifmnjobapegeaaPAllx22
namespace Go.Proofs.Ytifmnjobapegeaa.Pure
open Go.RowKit Go.Proofs.Ytifmnjobapegeaa.PAll Go.Proofs.YtifmnjobapegeaaW.PrintWords Go.Proofs.YtifmnjobapegeaaW.PrintLast

theorem dec_behind {b : Int} {t : List Int} (h0 : 128 ≤ b) (h1 : b < 194) : dec (b :: t) = (0, 0, 10) := by
  have h : ¬ b < 128 := by omega
  simp only [dec, h, h1, if_true, if_false]
theorem enc_behind {c : Int} (_hc : isCh c) {n : Nat} (h0 : 1 ≤ n) (h1 : n < (enc c).length) : dec ((enc c).drop n) = (0, 0, 10) := by
  rcases enc_cases c with ⟨b, e⟩ | ⟨b0, b, e⟩ | ⟨b0, b, e⟩ | ⟨b, e⟩ <;> rw [e] at h1 ⊢ <;> simp at h1
  · omega
  · obtain rfl : n = 1 := by omega
    exact dec_behind (by omega) (by omega)
  · obtain rfl | rfl : n = 1 ∨ n = 2 := by omega
    · exact dec_behind (by omega) (by omega)
    · exact dec_behind (by omega) (by omega)
  · obtain rfl | rfl | rfl : n = 1 ∨ n = 2 ∨ n = 3 := by omega
    · exact dec_behind (by omega) (by omega)
    · exact dec_behind (by omega) (by omega)
    · exact dec_behind (by omega) (by omega)
theorem bring_in {a n : Int} (hn : 0 < n) (hn2 : n ≤ 1099511627776) : ∃ r, colophonref00_Bring.f a n = some r ∧ 0 ≤ r ∧ r < n := by
  unfold colophonref00_Bring.f
  rw [if_neg (by omega), if_neg (by omega)]
  have h1 := Int.tmod_lt_of_pos a hn
  have h2 : -n < Int.tmod a n := by
    have := Int.lt_tmod_of_pos a hn
    omega
  by_cases h : Int.tmod a n < 0
  · rw [if_pos h]
    refine ⟨_, rfl, ?_, ?_⟩ <;> unfold wrap64 <;> omega
  · rw [if_neg h]
    exact ⟨_, rfl, by omega, h1⟩
theorem check_first {l : List Int} {c n e : Int} (hl : l ≠ []) (hb : isBytes l) (hd : dec l = (c, n, e)) (he : e ≠ 0) : Ev (fun k => runes_Check.f k l) (0, e) := by
  have hp : 0 < l.length := List.length_pos_iff.mpr hl
  refine Ev.step (g := fun k => runes_Check.l0 k l 0) (f := fun k => (runes_Decode.f k l 0).bind fun x => if x.2.2 = 0 then runes_Check.l0 k l (wrap64 (0 + x.2.1)) else some (0, x.2.2)) (fun k => ?_) ?_
  · simp only [runes_Check.l0]; rw [if_pos (by omega)]
  · have h := decode_in (l := l) (i := 0) (by omega) (by omega) hb
    have e0 : l.drop (0 : Int).toNat = l := rfl
    rw [e0, hd] at h
    refine Ev.bind h ?_
    simp only [he, if_false]
    exact Ev.now _

theorem RunesPiece : colophonlaw01_RunesPiece.Pure := by
  intro c a hc ha
  refine Ev.rounds ?_
  unfold colophonlaw01_RunesPiece.f
  refine Ev.bind works_true ?_
  simp only [if_true]
  have out : ∀ y e, (e = 0 → y.length = 1) → Ev (fun k => colophonlaw01_RunesPiece.j0 k a y e true) true := fun y e h =>
    Ev.step (f := fun _ => some true) (fun k => by
      simp only [colophonlaw01_RunesPiece.j0, if_true]
      by_cases h0 : e = 0
      · rw [if_pos h0, h h0]; rfl
      · rw [if_neg h0]) (Ev.now _)
  by_cases hch : isCh c
  · rw [encode_ch hch]
    simp only [Option.bind_some, if_true]
    have hp := enc_pos c
    by_cases hl : ((enc c).length : Int) < 2
    · rw [decide_eq_true hl]
      exact out _ _ (fun _ => by omega)
    · rw [decide_eq_false hl]
      have w1 : wrap64 (((enc c).length : Int) - 1) = ((enc c).length : Int) - 1 := by unfold wrap64; omega
      obtain ⟨r, hr, hr0, hr1⟩ := bring_in (a := a) (n := ((enc c).length : Int) - 1) (by omega) (by omega)
      obtain ⟨n, hn⟩ : ∃ n : Nat, (n : Int) = 1 + r := ⟨(1 + r).toNat, by omega⟩
      have w2 : wrap64 (1 + r) = (n : Int) := by unfold wrap64; omega
      have hn0 : 1 ≤ n := by omega
      have hn1 : n < (enc c).length := by omega
      have z0 : 0 ≤ (n : Int) := by omega
      have z1 : (n : Int) ≤ ((enc c).length : Int) := by omega
      have head : ∀ k, colophonlaw01_RunesPiece.j0 (k + 1) a (enc c) 0 false = (runes_Decode.f k ((enc c).take n) 0).bind fun x => (runes_Decode.f k (enc c) (n : Int)).bind fun y => (runes_Check.f k ((enc c).take n)).bind fun z => if x.2.2 = 3 then (if y.2.2 = 10 then (if z.1 = 0 then some (z.2 == 3) else some false) else some false) else some false := by
        intro k
        simp only [colophonlaw01_RunesPiece.j0, Bool.false_eq_true, if_false]
        rw [w1, hr]
        simp only [Option.bind_some, w2, z0, z1, if_true, Int.toNat_natCast]
      refine Ev.step head ?_
      have hb := enc_bytes hch
      have htl : ((enc c).take n).length = n := by rw [List.length_take]; omega
      have hne : (enc c).take n ≠ [] := by intro e; rw [e] at htl; simp at htl; omega
      have htb : isBytes ((enc c).take n) := fun x hx => hb x (List.mem_of_mem_take hx)
      have hpc : piece ((enc c).take n) := ⟨c, (enc c).drop n, hch, by simp, hne, by intro e; have := List.drop_eq_nil_iff.mp e; omega⟩
      have hd1 := decode_in (l := (enc c).take n) (i := 0) (by omega) (by omega) htb
      have e0 : ((enc c).take n).drop (0 : Int).toNat = (enc c).take n := rfl
      rw [e0, dec_piece hpc] at hd1
      have hd2 := decode_in (l := enc c) (i := (n : Int)) (by omega) (by omega) hb
      rw [Int.toNat_natCast, enc_behind hch hn0 hn1] at hd2
      refine Ev.bind hd1 (Ev.bind hd2 (Ev.bind (check_first hne htb (dec_piece hpc) (by omega)) ?_))
      exact Ev.now _
  · rw [encode_no hch]
    simp only [Option.bind_some]
    have e10 : ¬ (10 : Int) = 0 := by omega
    simp only [e10, if_false]
    exact out _ _ (fun h => by omega)
end Go.Proofs.Ytifmnjobapegeaa.Pure
