/- The document's decoder reads what the program's decoder reads (second part). -/
import Derived.Test.YtifmnjobapegeaaLibC
namespace Go.Proofs.Ytifmnjobapegeaa.Pure
open Go.RowKit Go.Proofs.Ytifmnjobapegeaa.PAll Go.Proofs.YtifmnjobapegeaaW.PrintWords Go.Proofs.YtifmnjobapegeaaW.PrintLast

theorem enc_of2 {c : Int} (h : isCh c) (e : ((enc c).length : Int) = 2) : 128 ≤ c ∧ c < 2048 ∧ enc c = [192 + c / 64, 128 + c % 64] := by
  have := enc_len h
  exact ⟨by omega, by omega, enc2 (by omega) (by omega)⟩
theorem enc_of3 {c : Int} (h : isCh c) (e : ((enc c).length : Int) = 3) : 2048 ≤ c ∧ c < 65536 ∧ enc c = [224 + c / 4096, 128 + c / 64 % 64, 128 + c % 64] := by
  have := enc_len h
  exact ⟨by omega, by omega, enc3 (by omega) (by omega)⟩
theorem enc_of4 {c : Int} (h : isCh c) (e : ((enc c).length : Int) = 4) : 65536 ≤ c ∧ c ≤ 1114111 ∧ enc c = [240 + c / 262144, 128 + c / 4096 % 64, 128 + c / 64 % 64, 128 + c % 64] := by
  have := enc_len h
  have h' := h
  unfold isCh at h'
  exact ⟨by omega, by omega, enc4 (by omega)⟩

theorem one_level {r x y : List Int} {n lo hi : Int} {R : Bool} (hn0 : 2 ≤ n) (hn : n ≤ 4) (hr : (r.length : Int) < n)
    (hb : 0 ≤ lo ∧ hi ≤ 2097151 ∧ lo ≤ hi)
    (hin : ∀ c, isCh c → ((enc c).length : Int) = n → (enc c).take r.length = r → lo ≤ c ∧ c ≤ hi)
    (hto : ∀ c c', isCh c → ((enc c).length : Int) = n → (enc c).take r.length = r → isCh c' → ((enc c').length : Int) = n → lo ≤ c' → c' ≤ hi → (enc c').take r.length = r)
    (hx : (x.length : Int) = n) (hlo : Ev (fun k => colophonref01_joined.f k x n) lo) (hhi : Ev (fun k => colophonref01_joined.f k y n) hi)
    (hyes : lev r n → R = true) (hno : ¬ lev r n → Ev (fun k => colophonref01_begins.l0 k r (n + 1)) R) :
    Ev (fun k => colophonref01_begins.l1 k r n x y) R := by
  have hc := cand_of hn0 hn hin hto
  refine l1_go hx hlo hhi ?_
  by_cases h : lev r n
  · rw [hyes h]
    exact l2_yes (by omega) hn (by omega) hb.1 hb.2.1 hb.2.2 (hc.mpr h)
  · exact l2_no (by omega) hn (by omega) hb.1 hb.2.1 hb.2.2 (fun g => h (hc.mp g)) (hno h)

theorem begins3 {a b c : Int} (hb : isBytes [a, b, c]) {R : Bool} (hR : R = true ↔ lev [a, b, c] 4) : Ev (fun k => colophonref01_begins.l0 k [a, b, c] 4) R := by
  refine b0_go (by omega) (by simp) ?_
  refine l1_push (by simp) (by omega) rfl ?_
  refine one_level (lo := ((a % 8 * 64 + b % 64) * 64 + c % 64) * 64 + 128 % 64) (hi := ((a % 8 * 64 + b % 64) * 64 + c % 64) * 64 + 191 % 64) (by omega) (by omega) (by simp) (by omega) ?_ ?_ (by simp)
    (joined4 (t := []) (fun x hx => ?_)) (joined4 (t := []) (fun x hx => ?_)) hR.mpr (fun h => ?_)
  · intro z h1 h2 h3
    obtain ⟨g1, g2, e⟩ := enc_of4 h1 h2
    rw [e] at h3
    simp at h3
    omega
  · intro z z' h1 h2 h3 h1' h2' k1 k2
    obtain ⟨g1, g2, e⟩ := enc_of4 h1 h2
    obtain ⟨g1', g2', e'⟩ := enc_of4 h1' h2'
    rw [e] at h3
    rw [e']
    simp at h3 ⊢
    omega
  · simp only [List.mem_cons, List.not_mem_nil, or_false] at hx
    rcases hx with rfl | rfl | rfl | rfl
    · exact hb _ (by simp)
    · exact hb _ (by simp)
    · exact hb _ (by simp)
    · omega
  · simp only [List.mem_cons, List.not_mem_nil, or_false] at hx
    rcases hx with rfl | rfl | rfl | rfl
    · exact hb _ (by simp)
    · exact hb _ (by simp)
    · exact hb _ (by simp)
    · omega
  · have : R = false := by
      cases R with
      | true => exact absurd (hR.mp rfl) h
      | false => rfl
    rw [this]
    exact b0_end

theorem begins2 {a b : Int} (hb : isBytes [a, b]) {R : Bool} (hR : R = true ↔ lev [a, b] 3 ∨ lev [a, b] 4) : Ev (fun k => colophonref01_begins.l0 k [a, b] 3) R := by
  have ba := hb a (by simp)
  have bb := hb b (by simp)
  have bys : ∀ c d : Int, 0 ≤ c → c ≤ 255 → 0 ≤ d → d ≤ 255 → isBytes [a, b, c, d] := by
    intro c d h1 h2 h3 h4 x hx
    simp only [List.mem_cons, List.not_mem_nil, or_false] at hx
    rcases hx with rfl | rfl | rfl | rfl <;> omega
  have bys3 : ∀ c : Int, 0 ≤ c → c ≤ 255 → isBytes [a, b, c] := by
    intro c h1 h2 x hx
    simp only [List.mem_cons, List.not_mem_nil, or_false] at hx
    rcases hx with rfl | rfl | rfl <;> omega
  refine b0_go (by omega) (by simp) ?_
  refine l1_push (by simp) (by omega) rfl ?_
  refine one_level (lo := (a % 16 * 64 + b % 64) * 64 + 128 % 64) (hi := (a % 16 * 64 + b % 64) * 64 + 191 % 64) (by omega) (by omega) (by simp) (by omega) ?_ ?_ (by simp)
    (joined3 (t := []) (bys3 _ (by omega) (by omega))) (joined3 (t := []) (bys3 _ (by omega) (by omega))) (fun h => hR.mpr (.inl h)) (fun h => ?_)
  · intro z h1 h2 h3
    obtain ⟨g1, g2, e⟩ := enc_of3 h1 h2
    rw [e] at h3
    simp at h3
    omega
  · intro z z' h1 h2 h3 h1' h2' k1 k2
    obtain ⟨g1, g2, e⟩ := enc_of3 h1 h2
    obtain ⟨g1', g2', e'⟩ := enc_of3 h1' h2'
    rw [e] at h3
    rw [e']
    simp at h3 ⊢
    omega
  · show Ev (fun k => colophonref01_begins.l0 k [a, b] 4) R
    refine b0_go (by omega) (by simp) ?_
    refine l1_push (by simp) (by omega) rfl ?_
    refine l1_push (by simp) (by omega) rfl ?_
    refine one_level (lo := ((a % 8 * 64 + b % 64) * 64 + 128 % 64) * 64 + 128 % 64) (hi := ((a % 8 * 64 + b % 64) * 64 + 191 % 64) * 64 + 191 % 64) (by omega) (by omega) (by simp) (by omega) ?_ ?_ (by simp)
      (joined4 (t := []) (bys _ _ (by omega) (by omega) (by omega) (by omega))) (joined4 (t := []) (bys _ _ (by omega) (by omega) (by omega) (by omega))) (fun h => hR.mpr (.inr h)) (fun h' => ?_)
    · intro z h1 h2 h3
      obtain ⟨g1, g2, e⟩ := enc_of4 h1 h2
      rw [e] at h3
      simp at h3
      omega
    · intro z z' h1 h2 h3 h1' h2' k1 k2
      obtain ⟨g1, g2, e⟩ := enc_of4 h1 h2
      obtain ⟨g1', g2', e'⟩ := enc_of4 h1' h2'
      rw [e] at h3
      rw [e']
      simp at h3 ⊢
      omega
    · have : R = false := by
        cases R with
        | true => rcases hR.mp rfl with g | g <;> contradiction
        | false => rfl
      rw [this]
      exact b0_end

theorem begins1 {a : Int} (hb : isBytes [a]) {R : Bool} (hR : R = true ↔ lev [a] 2 ∨ lev [a] 3 ∨ lev [a] 4) : Ev (fun k => colophonref01_begins.l0 k [a] 2) R := by
  have ba := hb a (by simp)
  have bys : ∀ b c d : Int, 0 ≤ b → b ≤ 255 → 0 ≤ c → c ≤ 255 → 0 ≤ d → d ≤ 255 → isBytes [a, b, c, d] := by
    intro b c d h0 h0' h1 h2 h3 h4 x hx
    simp only [List.mem_cons, List.not_mem_nil, or_false] at hx
    rcases hx with rfl | rfl | rfl | rfl <;> omega
  have bys3 : ∀ b c : Int, 0 ≤ b → b ≤ 255 → 0 ≤ c → c ≤ 255 → isBytes [a, b, c] := by
    intro b c h0 h0' h1 h2 x hx
    simp only [List.mem_cons, List.not_mem_nil, or_false] at hx
    rcases hx with rfl | rfl | rfl <;> omega
  have bys2 : ∀ b : Int, 0 ≤ b → b ≤ 255 → isBytes [a, b] := by
    intro b h0 h0' x hx
    simp only [List.mem_cons, List.not_mem_nil, or_false] at hx
    rcases hx with rfl | rfl <;> omega
  refine b0_go (by omega) (by simp) ?_
  refine l1_push (by simp) (by omega) rfl ?_
  refine one_level (lo := a % 32 * 64 + 128 % 64) (hi := a % 32 * 64 + 191 % 64) (by omega) (by omega) (by simp) (by omega) ?_ ?_ (by simp)
    (joined2 (t := []) (bys2 _ (by omega) (by omega))) (joined2 (t := []) (bys2 _ (by omega) (by omega))) (fun h => hR.mpr (.inl h)) (fun h => ?_)
  · intro z h1 h2 h3
    obtain ⟨g1, g2, e⟩ := enc_of2 h1 h2
    rw [e] at h3
    simp at h3
    omega
  · intro z z' h1 h2 h3 h1' h2' k1 k2
    obtain ⟨g1, g2, e⟩ := enc_of2 h1 h2
    obtain ⟨g1', g2', e'⟩ := enc_of2 h1' h2'
    rw [e] at h3
    rw [e']
    simp at h3 ⊢
    omega
  show Ev (fun k => colophonref01_begins.l0 k [a] 3) R
  refine b0_go (by omega) (by simp) ?_
  refine l1_push (by simp) (by omega) rfl ?_
  refine l1_push (by simp) (by omega) rfl ?_
  refine one_level (lo := (a % 16 * 64 + 128 % 64) * 64 + 128 % 64) (hi := (a % 16 * 64 + 191 % 64) * 64 + 191 % 64) (by omega) (by omega) (by simp) (by omega) ?_ ?_ (by simp)
    (joined3 (t := []) (bys3 _ _ (by omega) (by omega) (by omega) (by omega))) (joined3 (t := []) (bys3 _ _ (by omega) (by omega) (by omega) (by omega))) (fun h => hR.mpr (.inr (.inl h))) (fun h' => ?_)
  · intro z h1 h2 h3
    obtain ⟨g1, g2, e⟩ := enc_of3 h1 h2
    rw [e] at h3
    simp at h3
    omega
  · intro z z' h1 h2 h3 h1' h2' k1 k2
    obtain ⟨g1, g2, e⟩ := enc_of3 h1 h2
    obtain ⟨g1', g2', e'⟩ := enc_of3 h1' h2'
    rw [e] at h3
    rw [e']
    simp at h3 ⊢
    omega
  show Ev (fun k => colophonref01_begins.l0 k [a] 4) R
  refine b0_go (by omega) (by simp) ?_
  refine l1_push (by simp) (by omega) rfl ?_
  refine l1_push (by simp) (by omega) rfl ?_
  refine l1_push (by simp) (by omega) rfl ?_
  refine one_level (lo := ((a % 8 * 64 + 128 % 64) * 64 + 128 % 64) * 64 + 128 % 64) (hi := ((a % 8 * 64 + 191 % 64) * 64 + 191 % 64) * 64 + 191 % 64) (by omega) (by omega) (by simp) (by omega) ?_ ?_ (by simp)
    (joined4 (t := []) (bys _ _ _ (by omega) (by omega) (by omega) (by omega) (by omega) (by omega))) (joined4 (t := []) (bys _ _ _ (by omega) (by omega) (by omega) (by omega) (by omega) (by omega))) (fun h => hR.mpr (.inr (.inr h))) (fun h'' => ?_)
  · intro z h1 h2 h3
    obtain ⟨g1, g2, e⟩ := enc_of4 h1 h2
    rw [e] at h3
    simp at h3
    omega
  · intro z z' h1 h2 h3 h1' h2' k1 k2
    obtain ⟨g1, g2, e⟩ := enc_of4 h1 h2
    obtain ⟨g1', g2', e'⟩ := enc_of4 h1' h2'
    rw [e] at h3
    rw [e']
    simp at h3 ⊢
    omega
  · have : R = false := by
      cases R with
      | true => rcases hR.mp rfl with g | g | g <;> contradiction
      | false => rfl
    rw [this]
    exact b0_end

theorem piece_lev {r : List Int} (hr : r ≠ []) : piece r ↔ ∃ n : Int, (r.length : Int) < n ∧ n ≤ 4 ∧ lev r n := by
  constructor
  · rintro ⟨c, t, hc, e, _, ht⟩
    have := enc_pos c
    have hl : (enc c).length = r.length + t.length := by rw [e]; simp
    have htl : 0 < t.length := List.length_pos_iff.mpr ht
    exact ⟨((enc c).length : Int), by omega, by omega, c, hc, rfl, by rw [e]; simp⟩
  · rintro ⟨n, h1, _, c, hc, e, ht⟩
    refine ⟨c, (enc c).drop r.length, hc, ?_, hr, ?_⟩
    · conv => lhs; rw [← List.take_append_drop r.length (enc c)]
      rw [ht]
    · intro h
      have : (enc c).length ≤ r.length := List.drop_eq_nil_iff.mp h
      omega

theorem begins_eq {r : List Int} (hr : r ≠ []) (hl : r.length < 4) (hb : isBytes r) : ∃ R : Bool, (R = true ↔ piece r) ∧ Ev (fun k => colophonref01_begins.f k r) R := by
  classical
  refine ⟨decide (piece r), by simp, ?_⟩
  unfold colophonref01_begins.f
  rw [w64 (by omega) (by omega)]
  match r, hr, hl with
  | [a], hr, hl =>
    refine begins1 hb ?_
    rw [decide_eq_true_iff, piece_lev hr]
    constructor
    · rintro ⟨n, h1, h2, h3⟩
      obtain rfl | rfl | rfl : n = 2 ∨ n = 3 ∨ n = 4 := by simp at h1; omega
      · exact .inl h3
      · exact .inr (.inl h3)
      · exact .inr (.inr h3)
    · rintro (h | h | h)
      · exact ⟨2, by simp, by omega, h⟩
      · exact ⟨3, by simp, by omega, h⟩
      · exact ⟨4, by simp, by omega, h⟩
  | [a, b], hr, hl =>
    refine begins2 hb ?_
    rw [decide_eq_true_iff, piece_lev hr]
    constructor
    · rintro ⟨n, h1, h2, h3⟩
      obtain rfl | rfl : n = 3 ∨ n = 4 := by simp at h1; omega
      · exact .inl h3
      · exact .inr h3
    · rintro (h | h)
      · exact ⟨3, by simp, by omega, h⟩
      · exact ⟨4, by simp, by omega, h⟩
  | [a, b, c], hr, hl =>
    refine begins3 hb ?_
    rw [decide_eq_true_iff, piece_lev hr]
    constructor
    · rintro ⟨n, h1, h2, h3⟩
      obtain rfl : n = 4 := by simp at h1; omega
      exact h3
    · intro h
      exact ⟨4, by simp, by omega, h⟩

/-! The document's Decode. -/
theorem seen_dec {r : List Int} {x : Int × Int × Int} (hr : r ≠ []) (hb : isBytes r) (h : Seen r x) : x = dec r := by
  cases h with
  | char c t hc e => rw [e, dec_enc hc]
  | piece hp => rw [dec_piece hp]
  | none h1 h2 =>
    have := dec_seen r hr hb
    generalize dec r = d at this
    cases this with
    | char c t hc e => exact absurd e (h1 c t hc)
    | piece hp => exact absurd hp h2
    | none _ _ => rfl
def hit (r : List Int) (n : Nat) : Prop := isCh (jn r n) ∧ enc (jn r n) = r.take n

theorem rl0_head {r : List Int} {n : Nat} (h4 : n ≤ 4) (hl : n ≤ r.length) (k : Nat) : colophonref01_Decode.l0 (k + 1) r (n : Int) = colophonref01_Decode.j2 k r (n : Int) true := by
  simp only [colophonref01_Decode.l0]; rw [if_pos (by omega), decide_eq_true (by omega)]
theorem rj2_head {r : List Int} {n : Nat} (h4 : n ≤ 4) (hl : n ≤ r.length) (k : Nat) : colophonref01_Decode.j2 (k + 1) r (n : Int) true =
    (colophonref01_joined.f k r (n : Int)).bind fun t => (colophonref01_Encode.f t).bind fun q => if q.2 = 0 then ((colophonref00_EqBytes.f k q.1 (r.take n)).bind fun u => if u = true then some (t, (n : Int), 0) else colophonref01_Decode.l0 k r ((n + 1 : Nat) : Int)) else colophonref01_Decode.l0 k r ((n + 1 : Nat) : Int) := by
  have e1 : (0 : Int) ≤ (n : Int) := by omega
  have e2 : (n : Int) ≤ (r.length : Int) := by omega
  have e3 : wrap64 ((n : Int) + 1) = ((n + 1 : Nat) : Int) := by rw [w64 (by omega) (by omega)]; rfl
  simp only [colophonref01_Decode.j2, if_true, e1, e2, e3, Int.toNat_natCast]
theorem rl0_hit {r : List Int} {n : Nat} (hb : isBytes r) (h1 : 1 ≤ n) (h4 : n ≤ 4) (hl : n ≤ r.length) (h : hit r n) : Ev (fun k => colophonref01_Decode.l0 k r (n : Int)) (jn r n, (n : Int), 0) := by
  refine Ev.step (rl0_head h4 hl) (Ev.step (rj2_head h4 hl) (Ev.bind (joined_jn hb h1 h4 hl) ?_))
  have hw := jn_range (n := n) hb
  rw [refEncode _ (by omega), encode_ch h.1]
  simp only [Option.bind_some, if_true]
  rw [← h.2]
  exact Ev.bind (eqBytes_self _ (by have := (enc_pos (jn r n)).2; omega)) (Ev.now _)
theorem rl0_next {r : List Int} {n : Nat} {R : Int × Int × Int} (hb : isBytes r) (h1 : 1 ≤ n) (h4 : n ≤ 4) (hl : n ≤ r.length) (h : ¬ hit r n) (H : Ev (fun k => colophonref01_Decode.l0 k r ((n + 1 : Nat) : Int)) R) : Ev (fun k => colophonref01_Decode.l0 k r (n : Int)) R := by
  refine Ev.step (rl0_head h4 hl) (Ev.step (rj2_head h4 hl) (Ev.bind (joined_jn hb h1 h4 hl) ?_))
  have hw := jn_range (n := n) hb
  rw [refEncode _ (by omega)]
  by_cases hc : isCh (jn r n)
  · rw [encode_ch hc]
    simp only [Option.bind_some, if_true]
    have ne : ¬ enc (jn r n) = r.take n := fun e => h ⟨hc, e⟩
    have := eqBytes (enc (jn r n)) (r.take n) (by have := (enc_pos (jn r n)).2; omega)
    rw [decide_eq_false ne] at this
    refine Ev.bind this ?_
    simp only [Bool.false_eq_true, if_false]
    exact H
  · rw [encode_no hc]
    simp only [Option.bind_some]
    exact H
theorem rl0_end {r : List Int} {n : Nat} (hr : r ≠ []) (hb : isBytes r) (h4 : n ≤ 5) (hl : n = 5 ∨ r.length < n) (hno : ∀ m, 1 ≤ m → m ≤ 4 → m ≤ r.length → ¬ hit r m) : Ev (fun k => colophonref01_Decode.l0 k r (n : Int)) (dec r) := by
  have nochar : ∀ c t, isCh c → r ≠ enc c ++ t := by
    intro c t hc e
    have hp := enc_pos c
    refine hno (enc c).length hp.1 hp.2 (by rw [e]; simp) ?_
    have : jn r (enc c).length = c := by rw [e]; exact jn_enc hc t
    unfold hit
    rw [this]
    exact ⟨hc, by rw [e]; simp⟩
  refine Ev.step (f := fun k => colophonref01_Decode.j2 k r (n : Int) false) (fun k => ?_) ?_
  · simp only [colophonref01_Decode.l0]
    by_cases h : (n : Int) ≤ 4
    · rw [if_pos h, decide_eq_false (by omega)]
    · rw [if_neg h]
  by_cases hl4 : (r.length : Int) < 4
  · obtain ⟨R, hR, hev⟩ := begins_eq hr (by omega) hb
    refine Ev.step (f := fun k => (colophonref01_begins.f k r).bind fun t => if t = true then some (0, 0, 3) else some (0, 0, 10)) (fun k => ?_) (Ev.bind hev ?_)
    · simp only [colophonref01_Decode.j2, Bool.false_eq_true, if_false]
      rw [if_pos hl4]
    · cases R with
      | true =>
        simp only [if_true]
        rw [dec_piece (hR.mp rfl)]; exact Ev.now _
      | false =>
        simp only [Bool.false_eq_true, if_false]
        rw [← seen_dec hr hb (.none nochar (fun h => by have := hR.mpr h; simp at this))]; exact Ev.now _
  · have np : ¬ piece r := by
      rw [piece_lev hr]
      rintro ⟨m, h1, h2, _⟩
      omega
    rw [← seen_dec hr hb (.none nochar np)]
    refine Ev.step (f := fun _ => some (0, 0, 10)) (fun k => ?_) (Ev.now _)
    simp only [colophonref01_Decode.j2, Bool.false_eq_true, if_false]
    rw [if_neg hl4]
theorem hit_dec {r : List Int} {n : Nat} (hl : n ≤ r.length) (h : hit r n) : dec r = (jn r n, (n : Int), 0) := by
  have e : r = enc (jn r n) ++ r.drop n := by rw [h.2]; simp
  have hn : (enc (jn r n)).length = n := by rw [h.2]; simp; omega
  have := dec_enc h.1 (r.drop n)
  rw [← e, hn] at this
  exact this
theorem rl0_any {r : List Int} (hr : r ≠ []) (hb : isBytes r) (d : Nat) : ∀ n : Nat, n + d = 5 → 1 ≤ n → (∀ m, 1 ≤ m → m < n → m ≤ r.length → ¬ hit r m) → Ev (fun k => colophonref01_Decode.l0 k r (n : Int)) (dec r) := by
  induction d with
  | zero => intro n hn h1 hno; exact rl0_end hr hb (by omega) (.inl (by omega)) (fun m a b c => hno m a (by omega) c)
  | succ d ih =>
    intro n hn h1 hno
    by_cases hl : n ≤ r.length
    · by_cases h : hit r n
      · rw [hit_dec hl h]; exact rl0_hit hb h1 (by omega) hl h
      · refine rl0_next hb h1 (by omega) hl h (ih (n + 1) (by omega) (by omega) (fun m a b c => ?_))
        by_cases e : m = n
        · rw [e]; exact h
        · exact hno m a (by omega) c
    · exact rl0_end hr hb (by omega) (.inr (by omega)) (fun m a b c => hno m a (by omega) c)
theorem refDecode_out {l : List Int} {i : Int} (h : i < 0 ∨ (l.length : Int) ≤ i) : Ev (fun k => colophonref01_Decode.f k l i) (0, 0, 9) := by
  have J : Ev (fun k => colophonref01_Decode.j0 k l i true) (0, 0, 9) := Ev.step (f := fun _ => some (0, 0, 9)) (fun k => by simp only [colophonref01_Decode.j0, if_true]) (Ev.now _)
  unfold colophonref01_Decode.f
  by_cases h1 : i < 0
  · simp only [h1, if_true]; exact J
  · have h2 : i ≥ (l.length : Int) := by omega
    simp only [h1, h2, if_false, decide_true]; exact J
theorem refDecode_in {l : List Int} {i : Int} (h0 : 0 ≤ i) (h1 : i < (l.length : Int)) (hb : isBytes l) : Ev (fun k => colophonref01_Decode.f k l i) (dec (l.drop i.toNat)) := by
  have hd : isBytes (l.drop i.toNat) := fun x hx => hb x (List.mem_of_mem_drop hx)
  have hlen : (l.drop i.toNat).length = l.length - i.toNat := List.length_drop
  have hne : l.drop i.toNat ≠ [] := by intro e; rw [e] at hlen; simp at hlen; omega
  unfold colophonref01_Decode.f
  have h2 : ¬ i < 0 := by omega
  have h3 : ¬ i ≥ (l.length : Int) := by omega
  simp only [h2, h3, if_false, decide_false]
  refine Ev.step (f := fun k => colophonref01_Decode.l0 k (l.drop i.toNat) ((1 : Nat) : Int)) (fun k => ?_) (rl0_any hne hd 4 1 rfl (by omega) (fun m a b _ => by omega))
  simp only [colophonref01_Decode.j0, Bool.false_eq_true, if_false]
  rw [if_pos h0, if_pos (by omega)]; rfl
end Go.Proofs.Ytifmnjobapegeaa.Pure
