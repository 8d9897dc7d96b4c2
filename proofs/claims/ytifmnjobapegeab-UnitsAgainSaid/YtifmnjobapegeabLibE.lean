/- Bytes, read character by character: what Check and Count answer. -/
import Derived.Test.YtifmnjobapegeabLibC
import Derived.Test.YtifmnjobapegeabPAllx4
namespace Go.Proofs.Ytifmnjobapegeab.Pure
open Go.RowKit Go.Proofs.Ytifmnjobapegeab.PAll Go.Proofs.YtifmnjobapegeabW.PrintWords Go.Proofs.YtifmnjobapegeabW.PrintLast

/-- Bytes of characters. -/
def encs (cs : List Int) : List Int := cs.flatMap enc
theorem encs_nil : encs [] = [] := rfl
theorem encs_cons (c : Int) (cs : List Int) : encs (c :: cs) = enc c ++ encs cs := rfl
theorem encs_append (a b : List Int) : encs (a ++ b) = encs a ++ encs b := by unfold encs; simp
/-- Bytes are read: the characters, and what is left. -/
inductive Text : List Int → List Int → List Int → Prop
  | done : Text [] [] []
  | stop (r : List Int) (hr : r ≠ []) (h : (dec r).2.2 ≠ 0) : Text r [] r
  | step (c : Int) (b cs r : List Int) (hc : isCh c) (h : Text b cs r) : Text (enc c ++ b) (c :: cs) r
/-- The error of what is left. -/
def err (r : List Int) : Int := if r = [] then 0 else (dec r).2.2

theorem Text.eq {b cs r : List Int} (h : Text b cs r) : b = encs cs ++ r := by
  induction h with
  | done => rfl
  | stop r _ _ => rfl
  | step c b cs r _ _ ih => rw [encs_cons, List.append_assoc, ← ih]
theorem Text.chars {b cs r : List Int} (h : Text b cs r) : ∀ c ∈ cs, isCh c := by
  induction h with
  | done => intro c hc; simp at hc
  | stop r _ _ => intro c hc; simp at hc
  | step c b cs r hc _ ih =>
    intro d hd
    rcases List.mem_cons.mp hd with rfl | h
    · exact hc
    · exact ih d h
theorem Text.rest {b cs r : List Int} (h : Text b cs r) : r = [] ∨ (r ≠ [] ∧ (dec r).2.2 ≠ 0) := by
  induction h with
  | done => exact .inl rfl
  | stop r hr h => exact .inr ⟨hr, h⟩
  | step c b cs r _ _ ih => exact ih
theorem err_zero {b cs r : List Int} (h : Text b cs r) : err r = 0 ↔ r = [] := by
  unfold err
  rcases h.rest with e | ⟨h1, h2⟩
  · simp [e]
  · rw [if_neg h1]; exact ⟨fun e => absurd e h2, fun e => absurd e h1⟩
theorem Text.of_chars {cs : List Int} (h : ∀ c ∈ cs, isCh c) : Text (encs cs) cs [] := by
  induction cs with
  | nil => exact .done
  | cons c cs ih => exact .step c _ cs [] (h c (by simp)) (ih (fun d hd => h d (by simp [hd])))
theorem Text.append {a cs b ds r : List Int} (h : Text a cs []) (h' : Text b ds r) : Text (a ++ b) (cs ++ ds) r := by
  generalize e : ([] : List Int) = z at h
  induction h with
  | done => exact h'
  | stop q hq _ => exact absurd e.symm hq
  | step c x xs q hc _ ih => rw [List.append_assoc]; exact .step c _ _ _ hc (ih e)
theorem text_exists (n : Nat) : ∀ b : List Int, b.length ≤ n → isBytes b → ∃ cs r, Text b cs r := by
  induction n with
  | zero =>
    intro b hn hb
    obtain rfl : b = [] := List.length_eq_zero_iff.mp (by omega)
    exact ⟨[], [], .done⟩
  | succ n ih =>
    intro b hn hb
    by_cases hne : b = []
    · subst hne; exact ⟨[], [], .done⟩
    have hs := dec_seen b hne hb
    generalize hd : dec b = d at hs
    cases hs with
    | char c t hc e =>
      have hp := enc_pos c
      have hl : b.length = (enc c).length + t.length := by rw [e]; simp
      obtain ⟨cs, r, h⟩ := ih t (by omega) (fun x hx => hb x (by rw [e]; simp [hx]))
      exact ⟨c :: cs, r, by rw [e]; exact .step c t cs r hc h⟩
    | piece _ => exact ⟨[], b, .stop b hne (by rw [hd]; simp)⟩
    | none _ _ => exact ⟨[], b, .stop b hne (by rw [hd]; simp)⟩
theorem text_of {b : List Int} (hb : isBytes b) : ∃ cs r, Text b cs r := text_exists b.length b (Nat.le_refl _) hb

theorem encs_len (cs : List Int) : cs.length ≤ (encs cs).length ∧ (encs cs).length ≤ 4 * cs.length := by
  induction cs with
  | nil => simp [encs_nil]
  | cons c cs ih =>
    have := enc_pos c
    rw [encs_cons, List.length_append, List.length_cons]; omega

/-! The program's Check and Count. -/
theorem check_loop {l : List Int} (hb : isBytes l) (hs : l.length ≤ 1000000000000000) {b cs r : List Int} (h : Text b cs r) : ∀ i : Nat, i ≤ l.length → l.drop i = b →
    Ev (fun k => runes_Check.l0 k l (i : Int)) (((i + (encs cs).length : Nat) : Int), err r) := by
  induction h with
  | done =>
    intro i hi hd
    have : l.length ≤ i := List.drop_eq_nil_iff.mp hd
    refine Ev.step (f := fun _ => some ((i : Int), 0)) (fun k => by simp only [runes_Check.l0]; rw [if_neg (by omega)]) ?_
    simp [encs_nil, err]; exact Ev.now _
  | stop r hr he =>
    intro i hi hd
    have hlt : i < l.length := by
      rcases Nat.lt_or_ge i l.length with h | h
      · exact h
      · exact absurd ((List.drop_eq_nil_iff.mpr h).symm.trans hd).symm hr
    have D := decode_in (l := l) (i := (i : Int)) (by omega) (by omega) hb
    rw [Int.toNat_natCast, hd] at D
    refine Ev.step (f := fun k => (runes_Decode.f k l (i : Int)).bind fun x => if x.2.2 = 0 then runes_Check.l0 k l (wrap64 ((i : Int) + x.2.1)) else some ((i : Int), x.2.2)) (fun k => by simp only [runes_Check.l0]; rw [if_pos (by omega)]) (Ev.bind D ?_)
    simp only [he, if_false]
    have : err r = (dec r).2.2 := by unfold err; rw [if_neg hr]
    rw [this]; exact Ev.now _
  | step c b cs r hc _ ih =>
    intro i hi hd
    have hp := enc_pos c
    have hl : l.length - i = (enc c).length + b.length := by rw [← List.length_drop, hd]; simp
    have D := decode_in (l := l) (i := (i : Int)) (by omega) (by omega) hb
    rw [Int.toNat_natCast, hd, dec_enc hc] at D
    refine Ev.step (f := fun k => (runes_Decode.f k l (i : Int)).bind fun x => if x.2.2 = 0 then runes_Check.l0 k l (wrap64 ((i : Int) + x.2.1)) else some ((i : Int), x.2.2)) (fun k => by simp only [runes_Check.l0]; rw [if_pos (by omega)]) (Ev.bind D ?_)
    have w : wrap64 ((i : Int) + ((enc c).length : Int)) = ((i + (enc c).length : Nat) : Int) := by unfold wrap64; omega
    simp only [w, if_true]
    have := ih (i + (enc c).length) (by omega) (by rw [← List.drop_drop, hd]; simp)
    rw [encs_cons, List.length_append, ← Nat.add_assoc]
    exact this
theorem check_eq {b cs r : List Int} (h : Text b cs r) (hb : isBytes b) (hs : b.length ≤ 1000000000000000) : Ev (fun k => runes_Check.f k b) (((encs cs).length : Int), err r) := by
  have := check_loop hb hs h 0 (by omega) rfl
  unfold runes_Check.f
  simpa using this
end Go.Proofs.Ytifmnjobapegeab.Pure
