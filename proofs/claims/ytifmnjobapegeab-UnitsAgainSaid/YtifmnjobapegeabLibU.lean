/- Units of characters: what the program's Of, Of16, Offset and Text answer. -/
import Derived.Test.YtifmnjobapegeabLibE
import Derived.Test.YtifmnjobapegeabPAllx6
import Derived.Test.YtifmnjobapegeabPAllx19
import Derived.Test.YtifmnjobapegeabPAllx20
import Derived.Test.YtifmnjobapegeabPAllx17
namespace Go.Proofs.Ytifmnjobapegeab.Pure
open Go.RowKit Go.Proofs.Ytifmnjobapegeab.PAll Go.Proofs.YtifmnjobapegeabW.PrintWords Go.Proofs.YtifmnjobapegeabW.PrintLast

/-- The units of a character. -/
def un (c : Int) : List Int := if c < 65536 then [c] else [55296 + (c - 65536) / 1024, 56320 + (c - 65536) % 1024]
/-- The units of characters. -/
def us (cs : List Int) : List Int := cs.flatMap un
theorem us_nil : us [] = [] := rfl
theorem us_cons (c : Int) (cs : List Int) : us (c :: cs) = un c ++ us cs := rfl
theorem us_append (a b : List Int) : us (a ++ b) = us a ++ us b := by unfold us; simp
theorem un_one {c : Int} (h : c < 65536) : un c = [c] := by unfold un; rw [if_pos h]
theorem un_two {c : Int} (h : ¬ c < 65536) : un c = [55296 + (c - 65536) / 1024, 56320 + (c - 65536) % 1024] := by unfold un; rw [if_neg h]
theorem un_len (c : Int) : (c < 65536 ∧ (un c).length = 1) ∨ (65536 ≤ c ∧ (un c).length = 2) := by
  by_cases h : c < 65536
  · rw [un_one h]; exact .inl ⟨h, rfl⟩
  · rw [un_two h]; exact .inr ⟨by omega, rfl⟩
theorem size_eq (c : Int) : units_size.f c = some ((un c).length : Int) := by
  unfold units_size.f
  rcases un_len c with ⟨h, e⟩ | ⟨h, e⟩ <;> rw [e]
  · rw [if_neg (by omega)]; rfl
  · rw [if_pos (by omega)]; rfl
theorem un_enc {c : Int} (hc : isCh c) : (un c).length ≤ (enc c).length ∧ (enc c).length ≤ 3 * (un c).length := by
  have h1 := enc_len hc
  have h2 := un_len c
  omega
theorem us_encs {cs : List Int} (h : ∀ c ∈ cs, isCh c) : (us cs).length ≤ (encs cs).length ∧ (encs cs).length ≤ 3 * (us cs).length := by
  induction cs with
  | nil => simp [us_nil, encs_nil]
  | cons c cs ih =>
    have h1 := un_enc (h c (by simp))
    have h2 := ih (fun d hd => h d (by simp [hd]))
    rw [us_cons, encs_cons, List.length_append, List.length_append]; omega
theorem un_u16 {c : Int} (hc : isCh c) : ∀ x ∈ un c, 0 ≤ x ∧ x ≤ 65535 := by
  unfold isCh at hc
  intro x hx
  rcases un_len c with ⟨h, e⟩ | ⟨h, e⟩
  · rw [un_one h] at hx; simp at hx; omega
  · rw [un_two (by omega)] at hx; simp at hx; omega

/-! Bits. -/
theorem wrap_u16 (n : Int) : IntKind.u16.wrap n = n % 65536 := by simp [IntKind.wrap, IntKind.bits, IntKind.signed]
theorem wraps_i64 (n : Int) (h0 : 0 ≤ n) (h1 : n < 2 ^ 40) : IntKind.i64.wrap n = n := by rw [IntKind.wrap_i64]; omega
theorem and1023 {x : Int} (h0 : 0 ≤ x) (h1 : x < 1099511627776) : bits .and .i64 x 1023 = x % 1024 := by
  have := bits_mask .i64 40 (by decide) wraps_i64 10 (by decide) x h0 (by omega)
  have e : (2 : Int) ^ 10 - 1 = 1023 := by decide
  have e2 : (2 : Int) ^ 10 = 1024 := by decide
  rw [e, e2] at this
  exact this
theorem or10 {x y : Int} (h0 : 0 ≤ x) (h1 : x < 1099511627776) (hx : x % 1024 = 0) (hy : 0 ≤ y) (hy1 : y < 1024) : bits .or .i64 x y = x + y :=
  bits_join .i64 40 (by decide) wraps_i64 10 x y h0 (by have : (2 : Int) ^ 10 = 1024 := by decide
                                                        omega) (by omega) hy (by omega) (by omega)
theorem and_high (a : Nat) (h : a < 65536) : a &&& 18446744073709550592 = a / 1024 * 1024 := by
  have e : 18446744073709550592 = (2 ^ 54 - 1) * 2 ^ 10 := by decide
  rw [e]
  apply Nat.eq_of_testBit_eq
  intro i
  rw [Nat.testBit_and, Nat.testBit_mul_two_pow, show a / 1024 * 1024 = a / 2 ^ 10 * 2 ^ 10 from rfl, Nat.testBit_mul_two_pow, Nat.testBit_div_two_pow, Nat.testBit_two_pow_sub_one]
  by_cases h1 : 10 ≤ i
  · rw [show i - 10 + 10 = i by omega]
    by_cases h2 : i - 10 < 54
    · simp [h1, h2]
    · have : a.testBit i = false := Nat.testBit_lt_two_pow (Nat.lt_of_lt_of_le h (by
        have : 2 ^ 16 ≤ 2 ^ i := Nat.pow_le_pow_right (by decide) (by omega)
        omega))
      simp [this]
  · simp [h1]
theorem andNot1023 {x : Int} (h0 : 0 ≤ x) (h1 : x < 65536) : bits .andNot .i64 x 1023 = x / 1024 * 1024 := by
  obtain ⟨a, rfl⟩ := Int.eq_ofNat_of_zero_le h0
  have ha : a < 65536 := by omega
  show IntKind.i64.wrap ((BitVec.ofInt 64 (a : Int) &&& ~~~BitVec.ofInt 64 (1023 : Int)).toNat : Int) = _
  have e1 : (BitVec.ofInt 64 (a : Int)).toNat = a := by
    rw [BitVec.ofInt_natCast, BitVec.toNat_ofNat]; omega
  have e2 : (~~~BitVec.ofInt 64 (1023 : Int)).toNat = 18446744073709550592 := by decide
  rw [BitVec.toNat_and, e1, e2, and_high a ha, IntKind.wrap_i64]
  omega

/-! Of. -/
theorem of_loop {l : List Int} (hb : isBytes l) (hs : l.length ≤ 140737488351232) {b cs r : List Int} (h : Text b cs r) : ∀ i n : Nat, i ≤ l.length → n ≤ i → l.drop i = b →
    Ev (fun k => units_Of.l0 k l (n : Int) (i : Int)) (if err r = 0 then ((n + (us cs).length : Nat) : Int) else 0, err r) := by
  induction h with
  | done =>
    intro i n hi hn hd
    have : l.length ≤ i := List.drop_eq_nil_iff.mp hd
    refine Ev.step (f := fun _ => some ((n : Int), 0)) (fun k => by simp only [units_Of.l0]; rw [if_neg (by omega)]) ?_
    simp [err, us_nil]; exact Ev.now _
  | stop r hr he =>
    intro i n hi hn hd
    have hlt : i < l.length := by
      rcases Nat.lt_or_ge i l.length with h | h
      · exact h
      · exact absurd ((List.drop_eq_nil_iff.mpr h).symm.trans hd).symm hr
    have D := decode_in (l := l) (i := (i : Int)) (by omega) (by omega) hb
    rw [Int.toNat_natCast, hd] at D
    refine Ev.step (f := fun k => (runes_Decode.f k l (i : Int)).bind fun x => if x.2.2 = 0 then ((units_size.f x.1).bind fun t => units_Of.l0 k l (wrap64 ((n : Int) + t)) (wrap64 ((i : Int) + x.2.1))) else some (0, x.2.2)) (fun k => by simp only [units_Of.l0]; rw [if_pos (by omega)]) (Ev.bind D ?_)
    have : err r = (dec r).2.2 := by unfold err; rw [if_neg hr]
    simp only [he, this, if_false]
    exact Ev.now _
  | step c b cs r hc _ ih =>
    intro i n hi hn hd
    have hp := enc_pos c
    have hu := un_enc hc
    have hl : l.length - i = (enc c).length + b.length := by rw [← List.length_drop, hd]; simp
    have D := decode_in (l := l) (i := (i : Int)) (by omega) (by omega) hb
    rw [Int.toNat_natCast, hd, dec_enc hc] at D
    refine Ev.step (f := fun k => (runes_Decode.f k l (i : Int)).bind fun x => if x.2.2 = 0 then ((units_size.f x.1).bind fun t => units_Of.l0 k l (wrap64 ((n : Int) + t)) (wrap64 ((i : Int) + x.2.1))) else some (0, x.2.2)) (fun k => by simp only [units_Of.l0]; rw [if_pos (by omega)]) (Ev.bind D ?_)
    have w : wrap64 ((i : Int) + ((enc c).length : Int)) = ((i + (enc c).length : Nat) : Int) := by unfold wrap64; omega
    have w2 : wrap64 ((n : Int) + ((un c).length : Int)) = ((n + (un c).length : Nat) : Int) := by unfold wrap64; omega
    simp only [size_eq, Option.bind_some, w, w2, if_true]
    have := ih (i + (enc c).length) (n + (un c).length) (by omega) (by omega) (by rw [← List.drop_drop, hd]; simp)
    have e2 : n + (un c).length + (us cs).length = n + (us (c :: cs)).length := by rw [us_cons, List.length_append]; omega
    rw [e2] at this
    exact this
theorem of_eq {b cs r : List Int} (h : Text b cs r) (hb : isBytes b) (hs : b.length ≤ 140737488351232) : Ev (fun k => units_Of.f k b) (if err r = 0 then ((us cs).length : Int) else 0, err r) := by
  have := of_loop hb hs h 0 0 (by omega) (by omega) rfl
  unfold units_Of.f
  simpa using this

/-! Of16. -/
theorem pair_eq {c : Int} (h0 : 65536 ≤ c) (h1 : c ≤ 1114111) : ([IntKind.u16.wrap (Go.bits .or .i64 55296 ((wrap64 (c - 65536)) / 1024)), IntKind.u16.wrap (Go.bits .or .i64 56320 (Go.bits .and .i64 (wrap64 (c - 65536)) 1023))] : List Int) = un c := by
  have w : wrap64 (c - 65536) = c - 65536 := by unfold wrap64; omega
  rw [w, and1023 (by omega) (by omega), or10 (by omega) (by omega) (by omega) (by omega) (by omega), or10 (by omega) (by omega) (by omega) (by omega) (by omega), wrap_u16, wrap_u16, un_two (by omega)]
  congr 1
  · omega
  · congr 1; omega
theorem of16_loop {l : List Int} (hb : isBytes l) (hs : l.length ≤ 1000000000000000) {b cs r : List Int} (h : Text b cs r) : ∀ (i : Nat) (acc : List Int), i ≤ l.length → acc.length + (us cs).length ≤ 70368744177660 → l.drop i = b →
    Ev (fun k => units_Of16.l0 k l acc (i : Int)) (if err r = 0 then acc ++ us cs else [], err r) := by
  induction h with
  | done =>
    intro i acc hi hn hd
    have : l.length ≤ i := List.drop_eq_nil_iff.mp hd
    refine Ev.step (f := fun _ => some (acc, 0)) (fun k => by simp only [units_Of16.l0]; rw [if_neg (by omega)]) ?_
    simp [err, us_nil]; exact Ev.now _
  | stop r hr he =>
    intro i acc hi hn hd
    have hlt : i < l.length := by
      rcases Nat.lt_or_ge i l.length with h | h
      · exact h
      · exact absurd ((List.drop_eq_nil_iff.mpr h).symm.trans hd).symm hr
    have D := decode_in (l := l) (i := (i : Int)) (by omega) (by omega) hb
    rw [Int.toNat_natCast, hd] at D
    obtain ⟨F, hF⟩ : ∃ F : Nat → Int × Int × Int → Option (List Int × Int), ∀ k, units_Of16.l0 (k + 1) l acc (i : Int) = (runes_Decode.f k l (i : Int)).bind fun x => if x.2.2 = 0 then F k x else some (([] : List Int), x.2.2) :=
      ⟨_, fun k => by simp only [units_Of16.l0]; rw [if_pos (by omega)]⟩
    refine Ev.step hF (Ev.bind D ?_)
    have : err r = (dec r).2.2 := by unfold err; rw [if_neg hr]
    simp only [he, this, if_false]
    exact Ev.now _
  | step c b cs r hc _ ih =>
    intro i acc hi hn hd
    have hp := enc_pos c
    have hu := un_enc hc
    have hl : l.length - i = (enc c).length + b.length := by rw [← List.length_drop, hd]; simp
    have D := decode_in (l := l) (i := (i : Int)) (by omega) (by omega) hb
    rw [Int.toNat_natCast, hd, dec_enc hc] at D
    refine Ev.step (f := fun k => (runes_Decode.f k l (i : Int)).bind fun x => if x.2.2 = 0 then ((units_size.f x.1).bind fun t => (if t = 1 then (if acc.length < 70368744177664 then (units_Of16.l0 k l (acc ++ [IntKind.u16.wrap (x.1)]) (wrap64 ((i : Int) + x.2.1))) else (none)) else ((some (([IntKind.u16.wrap (Go.bits .or .i64 55296 ((wrap64 (x.1 - 65536)) / 1024)), IntKind.u16.wrap (Go.bits .or .i64 56320 (Go.bits .and .i64 (wrap64 (x.1 - 65536)) 1023))] : List Int) : List Int)).bind fun y => (if acc.length + y.length < 70368744177664 then (units_Of16.l0 k l (acc ++ y) (wrap64 ((i : Int) + x.2.1))) else (none))))) else some (([] : List Int), x.2.2)) (fun k => by simp only [units_Of16.l0]; rw [if_pos (by omega)]) (Ev.bind D ?_)
    have w : wrap64 ((i : Int) + ((enc c).length : Int)) = ((i + (enc c).length : Nat) : Int) := by unfold wrap64; omega
    simp only [size_eq, Option.bind_some, w, if_true]
    have hch := hc
    unfold isCh at hch
    rw [us_cons, List.length_append] at hn
    have I := ih (i + (enc c).length) (acc ++ un c) (by omega) (by rw [List.length_append]; omega) (by rw [← List.drop_drop, hd]; simp)
    rw [List.append_assoc, ← us_cons] at I
    rcases un_len c with ⟨h, e⟩ | ⟨h, e⟩
    · have e1 : ((un c).length : Int) = 1 := by omega
      have s : acc.length < 70368744177664 := by omega
      have u : IntKind.u16.wrap c = c := by rw [wrap_u16]; omega
      simp only [e1, s, u, if_true]
      rw [un_one h] at I
      exact I
    · have e1 : ¬ ((un c).length : Int) = 1 := by omega
      have s : acc.length + (un c).length < 70368744177664 := by omega
      simp only [e1, if_false, pair_eq h hch.2.1, s, if_true]
      exact I
theorem of16_eq_of {b cs r : List Int} (h : Text b cs r) (hb : isBytes b) (hs : b.length ≤ 1000000000000000) (hu : (us cs).length ≤ 70368744177660) : Ev (fun k => units_Of16.f k b) (if err r = 0 then us cs else [], err r) := by
  have := of16_loop hb hs h 0 [] (by omega) (by simpa using hu) rfl
  unfold units_Of16.f
  simpa using this
theorem of16_eq {b cs r : List Int} (h : Text b cs r) (hb : isBytes b) (hs : b.length ≤ 70368744177660) : Ev (fun k => units_Of16.f k b) (if err r = 0 then us cs else [], err r) := by
  have h1 := us_encs h.chars
  have h2 : b.length = (encs cs).length + r.length := by rw [h.eq, List.length_append]
  exact of16_eq_of h hb (by omega) (by omega)
end Go.Proofs.Ytifmnjobapegeab.Pure
