/- What the program's Offset and Text answer. -/
import Derived.Test.YtifmnjobapegeabLibU
namespace Go.Proofs.Ytifmnjobapegeab.Pure
open Go.RowKit Go.Proofs.Ytifmnjobapegeab.PAll Go.Proofs.YtifmnjobapegeabW.PrintWords Go.Proofs.YtifmnjobapegeabW.PrintLast

/-- Where so many units end: how many characters. -/
def many : List Int → Int → Nat
  | [], _ => 0
  | c :: cs, n => if ((un c).length : Int) > n then 0 else 1 + many cs (n - ((un c).length : Int))
theorem many_le (cs : List Int) : ∀ n, many cs n ≤ cs.length := by
  induction cs with
  | nil => intro n; simp [many]
  | cons c cs ih =>
    intro n
    unfold many
    split
    · omega
    · have := ih (n - ((un c).length : Int)); rw [List.length_cons]; omega
theorem many_units (cs : List Int) : ∀ n : Int, 0 ≤ n → ((us (cs.take (many cs n))).length : Int) ≤ n := by
  induction cs with
  | nil => intro n hn; simp [many, us_nil]; exact hn
  | cons c cs ih =>
    intro n hn
    unfold many
    split
    · simp [us_nil]; exact hn
    · have := ih (n - ((un c).length : Int)) (by omega)
      rw [Nat.add_comm, List.take_succ_cons, us_cons, List.length_append]; omega
theorem many_next (cs : List Int) : ∀ n : Int, 0 ≤ n → (h : many cs n < cs.length) → ((us (cs.take (many cs n + 1))).length : Int) > n := by
  induction cs with
  | nil => intro n hn h; simp at h
  | cons c cs ih =>
    intro n hn h
    unfold many at h ⊢
    by_cases hc : ((un c).length : Int) > n
    · rw [if_pos hc]
      rw [show 0 + 1 = 0 + 1 from rfl, List.take_succ_cons, us_cons, List.length_append]; omega
    · rw [if_neg hc] at h ⊢
      rw [List.length_cons] at h
      have := ih (n - ((un c).length : Int)) (by omega) (by omega)
      have e : 1 + many cs (n - ((un c).length : Int)) + 1 = (many cs (n - ((un c).length : Int)) + 1) + 1 := by omega
      rw [e, List.take_succ_cons, us_cons, List.length_append]; omega
theorem many_mono (cs : List Int) : ∀ n m : Int, n ≤ m → many cs n ≤ many cs m := by
  induction cs with
  | nil => intro n m _; simp [many]
  | cons c cs ih =>
    intro n m h
    unfold many
    by_cases h1 : ((un c).length : Int) > n
    · rw [if_pos h1]; omega
    · rw [if_neg h1, if_neg (by omega)]
      have := ih (n - ((un c).length : Int)) (m - ((un c).length : Int)) (by omega)
      omega
theorem many_all (cs : List Int) : ∀ n : Int, ((us cs).length : Int) ≤ n → many cs n = cs.length := by
  induction cs with
  | nil => intro n _; rfl
  | cons c cs ih =>
    intro n h
    rw [us_cons, List.length_append] at h
    unfold many
    rw [if_neg (by omega), ih _ (by omega), List.length_cons]; omega
theorem many_prefix (cs ds : List Int) : many (cs ++ ds) ((us cs).length : Int) = cs.length := by
  induction cs with
  | nil =>
    cases ds with
    | nil => rfl
    | cons d ds =>
      have := un_len d
      simp only [List.nil_append, us_nil, List.length_nil, many]
      rw [if_pos (by omega)]
  | cons c cs ih =>
    rw [List.cons_append]
    unfold many
    rw [us_cons, List.length_append, if_neg (by omega), show ((((un c).length + (us cs).length : Nat) : Int) - ((un c).length : Int)) = ((us cs).length : Int) by omega, ih, List.length_cons]; omega

theorem offset_loop {l : List Int} (hb : isBytes l) (hs : l.length ≤ 140737488351232) {b cs r : List Int} (h : Text b cs r) : r = [] → ∀ (i : Nat) (n : Int), i ≤ l.length → 0 ≤ n → n ≤ 9223372036854775807 → l.drop i = b →
    Ev (fun k => units_Offset.l0 k l n (i : Int)) (((i + (encs (cs.take (many cs n))).length : Nat) : Int), 0) := by
  induction h with
  | done =>
    intro _ i n hi hn hm hd
    have : l.length ≤ i := List.drop_eq_nil_iff.mp hd
    refine Ev.step (f := fun _ => some ((i : Int), 0)) (fun k => by simp only [units_Offset.l0]; rw [if_neg (by omega)]) ?_
    simp [many, encs_nil]; exact Ev.now _
  | stop r hr he => intro e; exact absurd e hr
  | step c b cs r hc _ ih =>
    intro e i n hi hn hm hd
    have hp := enc_pos c
    have hl : l.length - i = (enc c).length + b.length := by rw [← List.length_drop, hd]; simp
    have D := decode_in (l := l) (i := (i : Int)) (by omega) (by omega) hb
    rw [Int.toNat_natCast, hd, dec_enc hc] at D
    refine Ev.step (f := fun k => (runes_Decode.f k l (i : Int)).bind fun x => (units_size.f x.1).bind fun t => if t > n then some ((i : Int), 0) else (units_size.f x.1).bind fun u => units_Offset.l0 k l (wrap64 (n - u)) (wrap64 ((i : Int) + x.2.1))) (fun k => by simp only [units_Offset.l0]; rw [if_pos (by omega)]) (Ev.bind D ?_)
    have w : wrap64 ((i : Int) + ((enc c).length : Int)) = ((i + (enc c).length : Nat) : Int) := by unfold wrap64; omega
    simp only [size_eq, Option.bind_some, w]
    by_cases hg : ((un c).length : Int) > n
    · simp only [hg, if_true]
      have e0 : many (c :: cs) n = 0 := by unfold many; rw [if_pos hg]
      rw [e0]
      simp [encs_nil]; exact Ev.now _
    · have w2 : wrap64 (n - ((un c).length : Int)) = n - ((un c).length : Int) := by unfold wrap64; omega
      simp only [hg, if_false, w2]
      have I := ih e (i + (enc c).length) (n - ((un c).length : Int)) (by omega) (by omega) (by omega) (by rw [← List.drop_drop, hd]; simp)
      have e0 : many (c :: cs) n = many cs (n - ((un c).length : Int)) + 1 := by
        show (if ((un c).length : Int) > n then 0 else 1 + many cs (n - ((un c).length : Int))) = _
        rw [if_neg hg]; omega
      rw [e0, List.take_succ_cons, encs_cons, List.length_append, ← Nat.add_assoc]
      exact I
/-- What Offset answers. -/
def offs (cs r : List Int) (n : Int) : Int × Int := if err r = 0 then (if n < 0 then (0, 9) else (((encs (cs.take (many cs n))).length : Int), 0)) else (0, err r)
theorem offset_eq {b cs r : List Int} (h : Text b cs r) (hb : isBytes b) (hs : b.length ≤ 140737488351232) {n : Int} (hn : n ≤ 9223372036854775807) : Ev (fun k => units_Offset.f k b n) (offs cs r n) := by
  unfold units_Offset.f offs
  refine Ev.bind (check_eq h hb (by omega)) ?_
  by_cases he : err r = 0
  · simp only [he, if_true]
    by_cases h0 : n < 0
    · simp only [h0, if_true]; exact Ev.now _
    · simp only [h0, if_false]
      have := offset_loop hb hs h ((err_zero h).mp he) 0 n (by omega) (by omega) hn rfl
      simpa using this
  · simp only [he, if_false]; exact Ev.now _

/-! Text. -/
/-- The characters of units, if they are a text's. -/
def chars : List Int → Option (List Int)
  | [] => some []
  | a :: t =>
    if 55296 ≤ a ∧ a < 56320 then
      match t with
      | [] => none
      | b :: t => if 56320 ≤ b ∧ b < 57344 then (chars t).map (fun cs => (65536 + (a - 55296) * 1024 + (b - 56320)) :: cs) else none
    else if 56320 ≤ a ∧ a < 57344 then none
    else (chars t).map (fun cs => a :: cs)
def isUnits (l : List Int) : Prop := ∀ x ∈ l, 0 ≤ x ∧ x ≤ 65535
/-- Where 'chars' has characters: how they come one by one. -/
theorem chars_none_hi {a : Int} {t : List Int} (h : 55296 ≤ a ∧ a < 56320) (ht : ∀ b t', t = b :: t' → ¬ (56320 ≤ b ∧ b < 57344)) : chars (a :: t) = none := by
  cases t with
  | nil => simp only [chars, h]; simp
  | cons b t =>
    have := ht b t rfl
    rw [chars]; simp only [h, this, if_false]; simp
theorem chars_pair {a b : Int} {t : List Int} (h : 55296 ≤ a ∧ a < 56320) (h' : 56320 ≤ b ∧ b < 57344) : chars (a :: b :: t) = (chars t).map (fun cs => (65536 + (a - 55296) * 1024 + (b - 56320)) :: cs) := by
  rw [chars]; simp only [h, h']; simp
theorem chars_lo {a : Int} {t : List Int} (h : 56320 ≤ a ∧ a < 57344) : chars (a :: t) = none := by
  have h1 : ¬ (55296 ≤ a ∧ a < 56320) := by omega
  rw [chars.eq_def]; simp only [h1, h, if_false]; simp
theorem chars_one {a : Int} {t : List Int} (h : ¬ (55296 ≤ a ∧ a < 57344)) : chars (a :: t) = (chars t).map (fun cs => a :: cs) := by
  have h1 : ¬ (55296 ≤ a ∧ a < 56320) := by omega
  have h2 : ¬ (56320 ≤ a ∧ a < 57344) := by omega
  rw [chars.eq_def]; simp only [h1, h2, if_false]
theorem chars_us {cs : List Int} (h : ∀ c ∈ cs, isCh c) : chars (us cs) = some cs := by
  induction cs with
  | nil => rfl
  | cons c cs ih =>
    have hc := h c (by simp)
    unfold isCh at hc
    have I := ih (fun d hd => h d (by simp [hd]))
    rw [us_cons]
    by_cases hl : c < 65536
    · rw [un_one hl, List.cons_append, List.nil_append, chars_one (by omega), I]; rfl
    · rw [un_two hl, List.cons_append, List.cons_append, List.nil_append, chars_pair (by omega) (by omega), I, Option.map_some]
      congr 2; omega
theorem us_chars (n : Nat) : ∀ (l cs : List Int), l.length ≤ n → isUnits l → chars l = some cs → us cs = l ∧ ∀ c ∈ cs, isCh c := by
  induction n with
  | zero =>
    intro l cs hn hl h
    obtain rfl : l = [] := List.length_eq_zero_iff.mp (by omega)
    simp only [chars, Option.some.injEq] at h
    subst h; exact ⟨rfl, by simp⟩
  | succ n ih =>
    intro l cs hn hl h
    cases l with
    | nil =>
      simp only [chars, Option.some.injEq] at h
      subst h; exact ⟨rfl, by simp⟩
    | cons a t =>
      have ha := hl a (by simp)
      rw [List.length_cons] at hn
      by_cases h1 : 55296 ≤ a ∧ a < 56320
      · cases t with
        | nil => rw [chars_none_hi h1 (by simp)] at h; simp at h
        | cons b t =>
          by_cases h2 : 56320 ≤ b ∧ b < 57344
          · rw [chars_pair h1 h2, Option.map_eq_some_iff] at h
            obtain ⟨ds, hds, rfl⟩ := h
            rw [List.length_cons] at hn
            obtain ⟨e1, e2⟩ := ih t ds (by omega) (fun x hx => hl x (by simp [hx])) hds
            refine ⟨?_, ?_⟩
            · rw [us_cons, un_two (by omega), e1, List.cons_append, List.cons_append, List.nil_append]
              congr 1
              · omega
              · congr 1; omega
            · intro c hc
              rcases List.mem_cons.mp hc with rfl | hc
              · unfold isCh; omega
              · exact e2 c hc
          · rw [chars_none_hi h1 (fun x t' e => by injection e with e1 e2; subst e1; exact h2)] at h; simp at h
      · by_cases h2 : 56320 ≤ a ∧ a < 57344
        · rw [chars_lo h2] at h; simp at h
        · rw [chars_one (by omega), Option.map_eq_some_iff] at h
          obtain ⟨ds, hds, rfl⟩ := h
          obtain ⟨e1, e2⟩ := ih t ds (by omega) (fun x hx => hl x (by simp [hx])) hds
          refine ⟨?_, ?_⟩
          · rw [us_cons, un_one (by omega), e1]; rfl
          · intro c hc
            rcases List.mem_cons.mp hc with rfl | hc
            · unfold isCh; omega
            · exact e2 c hc

theorem text_loop (n : Nat) : ∀ (l acc : List Int), l.length ≤ n → acc.length + 3 * l.length ≤ 211106232532984 → isUnits l →
    Ev (fun k => units_Text.l0 k l acc) (match chars l with | some cs => (acc ++ encs cs, 0) | none => ([], 10)) := by
  induction n with
  | zero =>
    intro l acc hn hs hl
    obtain rfl : l = [] := List.length_eq_zero_iff.mp (by omega)
    refine Ev.step (f := fun _ => some (acc, 0)) (fun k => by simp only [units_Text.l0]; rw [if_neg (by simp)]) ?_
    simp [chars, encs_nil]; exact Ev.now _
  | succ n ih =>
    intro l acc hn hs hl
    cases l with
    | nil =>
      refine Ev.step (f := fun _ => some (acc, 0)) (fun k => by simp only [units_Text.l0]; rw [if_neg (by simp)]) ?_
      simp [chars, encs_nil]; exact Ev.now _
    | cons a t =>
      have ha := hl a (by simp)
      rw [List.length_cons] at hn
      have wa : wrap64 (rd (a :: t) 0) = a := by rw [rd0]; unfold wrap64; omega
      have hpos : ((a :: t).length : Int) > 0 := by rw [List.length_cons]; omega
      have hpos' : 0 < ((a :: t).length : Int) := hpos
      -- one unit alone
      have alone : ∀ R, (isCh a → Ev (fun k => units_Text.l0 k t (acc ++ enc a)) R) → (¬ isCh a → R = ([], 10)) → Ev (fun k => units_Text.j1 k (a :: t) acc a 1 false) R := by
        intro R h1 h2
        obtain ⟨F, hF⟩ : ∃ F : Nat → List Int × Int → Option (List Int × Int), ∀ k, units_Text.j1 (k + 1) (a :: t) acc a 1 false = (runes_Encode.f a).bind (F k) ∧ ∀ x, F k (x, 0) = (if acc.length + x.length < 211106232532992 then units_Text.l0 k t (acc ++ x) else none) ∧ F k (x, 10) = some ([], 10) := by
          refine ⟨_, fun k => ⟨by simp only [units_Text.j1, Bool.false_eq_true, if_false]; rfl, fun x => ⟨?_, ?_⟩⟩⟩
          · have : (1 : Int) ≤ ((a :: t).length : Int) := by omega
            simp only [if_true, this, show (0 : Int) ≤ 1 by omega]; rfl
          · rfl
        by_cases hc : isCh a
        · have hp := enc_pos a
          refine Ev.step (f := fun k => units_Text.l0 k t (acc ++ enc a)) (fun k => ?_) (h1 hc)
          rw [(hF k).1, encode_ch hc, Option.bind_some, ((hF k).2 _).1, if_pos (by omega)]
        · rw [h2 hc]
          refine Ev.step (f := fun _ => some ([], 10)) (fun k => ?_) (Ev.now _)
          rw [(hF k).1, encode_no hc, Option.bind_some, ((hF k).2 _).2]
      by_cases h1 : 55296 ≤ a ∧ a < 56320
      · have m1 : bits .andNot .i64 a 1023 = 55296 := by rw [andNot1023 (by omega) (by omega)]; omega
        have nc : ¬ isCh a := by unfold isCh; omega
        cases t with
        | nil =>
          rw [chars_none_hi h1 (by simp)]
          refine Ev.step (f := fun k => units_Text.j1 k [a] acc a 1 false) (fun k => ?_) (alone _ (fun h => absurd h nc) (fun _ => rfl))
          simp only [units_Text.l0]
          rw [if_pos hpos, if_pos hpos', wa, if_pos m1, if_neg (by simp)]
        | cons b t =>
          have hb := hl b (by simp)
          have wb : wrap64 (rd (a :: b :: t) 1) = b := by rw [rd1]; unfold wrap64; omega
          have head : ∀ k, units_Text.l0 (k + 1) (a :: b :: t) acc = units_Text.j1 k (a :: b :: t) acc a 1 (bits .andNot .i64 b 1023 == 56320) := by
            intro k
            simp only [units_Text.l0]
            rw [if_pos hpos, if_pos hpos', wa, if_pos m1, if_pos (by simp only [List.length_cons]; omega), if_pos (by simp only [List.length_cons]; omega), wb]
          refine Ev.step head ?_
          by_cases h2 : 56320 ≤ b ∧ b < 57344
          · have m2 : (bits .andNot .i64 b 1023 == 56320) = true := by
              rw [andNot1023 (by omega) (by omega), beq_iff_eq]; omega
            rw [m2, chars_pair h1 h2]
            obtain ⟨c, hcd⟩ : ∃ c, c = 65536 + (a - 55296) * 1024 + (b - 56320) := ⟨_, rfl⟩
            have hc : isCh c := by unfold isCh; omega
            have hp := enc_pos c
            have ec : wrap64 (65536 + (Go.bits .or .i64 (wrap64 ((Go.bits .and .i64 a 1023) * 1024)) (Go.bits .and .i64 b 1023))) = c := by
              rw [and1023 (by omega) (by omega), and1023 (by omega) (by omega), show wrap64 (a % 1024 * 1024) = a % 1024 * 1024 by unfold wrap64; omega, or10 (by omega) (by omega) (by omega) (by omega) (by omega)]
              unfold wrap64; omega
            rw [← hcd]
            refine Ev.step (f := fun k => units_Text.l0 k t (acc ++ enc c)) (fun k => ?_) ?_
            · simp only [units_Text.j1, if_true]
              rw [if_pos (by simp only [List.length_cons]; omega), wb, ec, encode_ch hc]
              simp only [Option.bind_some, if_true]
              rw [if_pos (by omega), if_pos (by simp only [List.length_cons]; omega)]; rfl
            · rw [List.length_cons] at hn
              have hcl : (enc c).length ≤ 4 := hp.2
              have I := ih t (acc ++ enc c) (by omega) (by
                rw [List.length_append]
                simp only [List.length_cons] at hs
                omega) (fun x hx => hl x (by simp [hx]))
              cases ht : chars t with
              | none => rw [ht] at I; exact I
              | some ds =>
                rw [ht] at I
                simp only [Option.map_some, encs_cons]
                simp only [List.append_assoc] at I
                exact I
          · have m2 : (bits .andNot .i64 b 1023 == 56320) = false := by
              rw [andNot1023 (by omega) (by omega), beq_eq_false_iff_ne]; omega
            rw [m2, chars_none_hi h1 (fun x t' e => by injection e with e1 e2; subst e1; exact h2)]
            exact alone _ (fun h => absurd h nc) (fun _ => rfl)
      · have m1 : ¬ bits .andNot .i64 a 1023 = 55296 := by rw [andNot1023 (by omega) (by omega)]; omega
        refine Ev.step (f := fun k => units_Text.j1 k (a :: t) acc a 1 false) (fun k => ?_) ?_
        · simp only [units_Text.l0]
          rw [if_pos hpos, if_pos hpos', wa, if_neg m1]
        · refine alone _ (fun hc => ?_) (fun hc => ?_)
          · have hr : ¬ (55296 ≤ a ∧ a < 57344) := by unfold isCh at hc; omega
            rw [chars_one hr]
            have hl3 : (enc a).length ≤ 3 := by have := enc_len hc; omega
            rw [List.length_cons] at hs
            have I := ih t (acc ++ enc a) (by omega) (by rw [List.length_append]; omega) (fun x hx => hl x (by simp [hx]))
            cases ht : chars t with
            | none => rw [ht] at I; exact I
            | some ds =>
              rw [ht] at I
              simp only [Option.map_some, encs_cons]
              simp only [List.append_assoc] at I
              exact I
          · have hr : 56320 ≤ a ∧ a < 57344 := by unfold isCh at hc; omega
            rw [chars_lo hr]
end Go.Proofs.Ytifmnjobapegeab.Pure
