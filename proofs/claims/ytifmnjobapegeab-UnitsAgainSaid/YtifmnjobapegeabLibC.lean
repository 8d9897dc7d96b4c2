/- The document's decoder reads what the program's decoder reads. -/
import Derived.Test.YtifmnjobapegeabLibB
import Derived.Test.YtifmnjobapegeabPAllx10
import Derived.Test.YtifmnjobapegeabPAllx11
import Derived.Test.YtifmnjobapegeabPAllx12
namespace Go.Proofs.Ytifmnjobapegeab.Pure
open Go.RowKit Go.Proofs.Ytifmnjobapegeab.PAll Go.Proofs.YtifmnjobapegeabW.PrintWords Go.Proofs.YtifmnjobapegeabW.PrintLast

theorem w64 {x : Int} (h0 : 0 ≤ x) (h1 : x ≤ 1099511627776) : wrap64 x = x := by unfold wrap64; omega

/-! The number that bytes would have. -/
theorem jl0_done {r : List Int} {n c i : Int} (h : ¬ i < n) : Ev (fun k => colophonref01_joined.l0 k r n c i) c :=
  Ev.step (f := fun _ => some c) (fun k => by simp only [colophonref01_joined.l0]; rw [if_neg h]) (Ev.now _)
theorem jl0_next {r : List Int} {n c i R : Int} (h : i < n) (h0 : 0 ≤ i) (h4 : i ≤ 4) (e : i < (r.length : Int)) (hc0 : 0 ≤ c) (hc1 : c ≤ 4294967296) (hx0 : 0 ≤ rd r i) (hx1 : rd r i ≤ 255)
    (H : Ev (fun k => colophonref01_joined.l0 k r n (c * 64 + rd r i % 64) (i + 1)) R) : Ev (fun k => colophonref01_joined.l0 k r n c i) R :=
  Ev.step (f := fun k => colophonref01_joined.l0 k r n (c * 64 + rd r i % 64) (i + 1)) (fun k => by
    simp only [colophonref01_joined.l0]
    rw [if_pos h, if_pos h0, if_pos e, w64 hx0 (by omega), tmod_nn hx0, w64 (x := c * 64) (by omega) (by omega), w64 (x := c * 64 + rd r i % 64) (by omega) (by omega), w64 (x := i + 1) (by omega) (by omega)]) H
/-- What counts of a first byte. -/
def headOf (n b : Int) : Int := if n = 2 then b % 32 else if n = 3 then b % 16 else if n = 4 then b % 8 else b
theorem joined_head {r : List Int} {n R : Int} (hl : 0 < (r.length : Int)) (h0 : 0 ≤ rd r 0) (h1 : rd r 0 ≤ 255)
    (H : Ev (fun k => colophonref01_joined.l0 k r n (headOf n (rd r 0)) 1) R) : Ev (fun k => colophonref01_joined.f k r n) R := by
  unfold colophonref01_joined.f
  unfold headOf at H
  simp only [hl, if_true]
  rw [w64 h0 (by omega), tmod_nn h0]
  have J2 : ∀ x, Ev (fun k => colophonref01_joined.l0 k r n x 1) R → Ev (fun k => colophonref01_joined.j2 k r n x) R := fun x h =>
    Ev.step (f := fun k => colophonref01_joined.l0 k r n x 1) (fun k => by simp only [colophonref01_joined.j2]) h
  by_cases e2 : n = 2
  · rw [if_pos e2] at H
    simp only [if_pos e2]
    refine Ev.step (f := fun k => colophonref01_joined.j1 k r n (rd r 0 % 32)) (fun k => by simp only [colophonref01_joined.j0]; rw [if_neg (by omega)]) ?_
    refine Ev.step (f := fun k => colophonref01_joined.j2 k r n (rd r 0 % 32)) (fun k => by simp only [colophonref01_joined.j1]; rw [if_neg (by omega)]) ?_
    exact J2 _ H
  · rw [if_neg e2] at H
    simp only [if_neg e2]
    by_cases e3 : n = 3
    · rw [if_pos e3] at H
      refine Ev.step (f := fun k => colophonref01_joined.j1 k r n (rd r 0 % 16)) (fun k => by simp only [colophonref01_joined.j0]; rw [if_pos e3, tmod_nn h0]) ?_
      refine Ev.step (f := fun k => colophonref01_joined.j2 k r n (rd r 0 % 16)) (fun k => by simp only [colophonref01_joined.j1]; rw [if_neg (by omega)]) ?_
      exact J2 _ H
    · rw [if_neg e3] at H
      refine Ev.step (f := fun k => colophonref01_joined.j1 k r n (rd r 0)) (fun k => by simp only [colophonref01_joined.j0]; rw [if_neg e3]) ?_
      by_cases e4 : n = 4
      · rw [if_pos e4] at H
        refine Ev.step (f := fun k => colophonref01_joined.j2 k r n (rd r 0 % 8)) (fun k => by simp only [colophonref01_joined.j1]; rw [if_pos e4, tmod_nn h0]) ?_
        exact J2 _ H
      · rw [if_neg e4] at H
        refine Ev.step (f := fun k => colophonref01_joined.j2 k r n (rd r 0)) (fun k => by simp only [colophonref01_joined.j1]; rw [if_neg e4]) ?_
        exact J2 _ H
theorem joined1 {a : Int} {t : List Int} (hb : isBytes (a :: t)) : Ev (fun k => colophonref01_joined.f k (a :: t) 1) a := by
  have h := hb a (by simp)
  exact joined_head (by simp <;> omega) h.1 h.2 (jl0_done (by omega))
theorem joined2 {a b : Int} {t : List Int} (hb : isBytes (a :: b :: t)) : Ev (fun k => colophonref01_joined.f k (a :: b :: t) 2) (a % 32 * 64 + b % 64) := by
  have h := hb a (by simp)
  have h1 := hb b (by simp)
  refine joined_head (by simp; omega) h.1 h.2 ?_
  show Ev (fun k => colophonref01_joined.l0 k (a :: b :: t) 2 (a % 32) 1) _
  exact jl0_next (by omega) (by omega) (by omega) (by simp; omega) (by omega) (by omega) h1.1 h1.2 (jl0_done (by omega))
theorem joined3 {a b c : Int} {t : List Int} (hb : isBytes (a :: b :: c :: t)) : Ev (fun k => colophonref01_joined.f k (a :: b :: c :: t) 3) ((a % 16 * 64 + b % 64) * 64 + c % 64) := by
  have h := hb a (by simp)
  have h1 := hb b (by simp)
  have h2 := hb c (by simp)
  refine joined_head (by simp; omega) h.1 h.2 ?_
  show Ev (fun k => colophonref01_joined.l0 k (a :: b :: c :: t) 3 (a % 16) 1) _
  refine jl0_next (by omega) (by omega) (by omega) (by simp; omega) (by omega) (by omega) h1.1 h1.2 ?_
  rw [rd1]
  exact jl0_next (by omega) (by omega) (by omega) (by simp; omega) (by omega) (by omega) h2.1 h2.2 (jl0_done (by omega))
theorem joined4 {a b c d : Int} {t : List Int} (hb : isBytes (a :: b :: c :: d :: t)) : Ev (fun k => colophonref01_joined.f k (a :: b :: c :: d :: t) 4) (((a % 8 * 64 + b % 64) * 64 + c % 64) * 64 + d % 64) := by
  have h := hb a (by simp)
  have h1 := hb b (by simp)
  have h2 := hb c (by simp)
  have h3 := hb d (by simp)
  refine joined_head (by simp; omega) h.1 h.2 ?_
  show Ev (fun k => colophonref01_joined.l0 k (a :: b :: c :: d :: t) 4 (a % 8) 1) _
  refine jl0_next (by omega) (by omega) (by omega) (by simp; omega) (by omega) (by omega) h1.1 h1.2 ?_
  rw [rd1]
  refine jl0_next (by omega) (by omega) (by omega) (by simp; omega) (by omega) (by omega) h2.1 h2.2 ?_
  show Ev (fun k => colophonref01_joined.l0 k (a :: b :: c :: d :: t) 4 (((a % 8 * 64 + b % 64) * 64 + rd (a :: b :: c :: d :: t) 2 % 64)) 3) _
  rw [rd2]
  exact jl0_next (by omega) (by omega) (by omega) (by simp; omega) (by omega) (by omega) h3.1 h3.2 (jl0_done (by omega))

/-- The number of n bytes. -/
def jn (r : List Int) (n : Nat) : Int :=
  match n, r with
  | 1, a :: _ => a
  | 2, a :: b :: _ => a % 32 * 64 + b % 64
  | 3, a :: b :: c :: _ => (a % 16 * 64 + b % 64) * 64 + c % 64
  | 4, a :: b :: c :: d :: _ => ((a % 8 * 64 + b % 64) * 64 + c % 64) * 64 + d % 64
  | _, _ => 0
theorem joined_jn {r : List Int} {n : Nat} (hb : isBytes r) (h1 : 1 ≤ n) (h4 : n ≤ 4) (hl : n ≤ r.length) : Ev (fun k => colophonref01_joined.f k r (n : Int)) (jn r n) := by
  obtain rfl | rfl | rfl | rfl : n = 1 ∨ n = 2 ∨ n = 3 ∨ n = 4 := by omega
  · match r, hl with
    | a :: t, _ => exact joined1 hb
  · match r, hl with
    | a :: b :: t, _ => exact joined2 hb
  · match r, hl with
    | a :: b :: c :: t, _ => exact joined3 hb
  · match r, hl with
    | a :: b :: c :: d :: t, _ => exact joined4 hb
theorem jn_range {r : List Int} {n : Nat} (hb : isBytes r) : 0 ≤ jn r n ∧ jn r n ≤ 2097151 := by
  unfold jn
  split
  · next a t => have := hb a (by simp); omega
  · next a b t => omega
  · next a b c t => omega
  · next a b c d t => omega
  · omega
theorem jn_enc {c : Int} (h : isCh c) (t : List Int) : jn (enc c ++ t) (enc c).length = c := by
  unfold isCh at h
  rcases enc_cases c with ⟨b, e⟩ | ⟨b0, b, e⟩ | ⟨b0, b, e⟩ | ⟨b, e⟩ <;> rw [e] <;> simp only [List.cons_append, List.nil_append, List.length_cons, List.length_nil, jn] <;> omega

/-! Are bytes the begin of a character? -/
/-- A candidate that fits. -/
def fits (r : List Int) (n lo hi c : Int) : Prop := isCh c ∧ lo ≤ c ∧ c ≤ hi ∧ ((enc c).length : Int) = n ∧ (enc c).take r.length = r
def least (n : Int) : Int := rd [0, 0, 128, 2048, 65536] n
def cands (n lo hi : Int) : List Int := [mx lo (least n), 57344, hi, lo]

theorem l2_hit {r : List Int} {n lo hi i : Int} (hn0 : 0 ≤ n) (hn : n ≤ 4) (hr : (r.length : Int) ≤ n) (h0 : 0 ≤ i) (h4 : i < 4) (hf : fits r n lo hi (rd (cands n lo hi) i)) :
    Ev (fun k => colophonref01_begins.l2 k r n lo hi i) true := by
  obtain ⟨hc, hlo, hhi, hl, ht⟩ := hf
  refine Ev.step (f := fun k => (colophonref00_EqBytes.f k ((enc (rd (cands n lo hi) i)).take ((r.length : Int)).toNat) r).bind fun t => if t = true then some true else colophonref01_begins.l2 k r n lo hi (wrap64 (i + 1))) (fun k => ?_) ?_
  · simp only [colophonref01_begins.l2]
    rw [if_pos h4]
    simp only [Option.bind_some]
    rw [if_pos hn0, if_pos (by simp; omega)]
    have e1 : ([mx lo (rd [0, 0, 128, 2048, 65536] n), 57344, hi, lo] : List Int) = cands n lo hi := rfl
    rw [e1, if_pos h0, if_pos (by simp [cands]; omega), refEncode _ (by unfold isCh at hc; omega), encode_ch hc]
    simp only [Option.bind_some, if_true]
    rw [if_pos hlo, if_pos hhi, if_pos hl, if_pos (by omega), if_pos (by omega)]
  · have e : (enc (rd (cands n lo hi) i)).take ((r.length : Int)).toNat = r := by simpa using ht
    simp only [e]
    exact Ev.bind (eqBytes_self r (by omega)) (Ev.now _)
theorem l2_miss {r : List Int} {n lo hi i : Int} {R : Bool} (hn0 : 0 ≤ n) (hn : n ≤ 4) (hr : (r.length : Int) ≤ n) (h0 : 0 ≤ i) (h4 : i < 4) (hlo0 : 0 ≤ lo) (hhi0 : hi ≤ 2097151) (hlh : lo ≤ hi)
    (hf : ¬ fits r n lo hi (rd (cands n lo hi) i)) (H : Ev (fun k => colophonref01_begins.l2 k r n lo hi (i + 1)) R) :
    Ev (fun k => colophonref01_begins.l2 k r n lo hi i) R := by
  have e1 : ([mx lo (rd [0, 0, 128, 2048, 65536] n), 57344, hi, lo] : List Int) = cands n lo hi := rfl
  have hrange : -9223372036854775808 ≤ rd (cands n lo hi) i ∧ rd (cands n lo hi) i ≤ 9223372036854775807 := by
    have hle : 0 ≤ least n ∧ least n ≤ 65536 := by
      obtain rfl | rfl | rfl | rfl | rfl : n = 0 ∨ n = 1 ∨ n = 2 ∨ n = 3 ∨ n = 4 := by omega
      all_goals decide
    obtain rfl | rfl | rfl | rfl : i = 0 ∨ i = 1 ∨ i = 2 ∨ i = 3 := by omega
    · show _ ≤ mx lo (least n) ∧ mx lo (least n) ≤ _
      unfold mx; split <;> omega
    · show _ ≤ (57344 : Int) ∧ (57344 : Int) ≤ _; omega
    · show _ ≤ hi ∧ hi ≤ _; omega
    · show _ ≤ lo ∧ lo ≤ _; omega
  have head : ∀ k, colophonref01_begins.l2 (k + 1) r n lo hi i = (runes_Encode.f (rd (cands n lo hi) i)).bind fun bt199 => (if bt199.2 = 0 then (if rd (cands n lo hi) i ≥ lo then (if rd (cands n lo hi) i ≤ hi then (if (bt199.1.length : Int) = n then (if 0 ≤ (r.length : Int) then (if (r.length : Int) ≤ (bt199.1.length : Int) then ((colophonref00_EqBytes.f k (bt199.1.take ((r.length : Int) : Int).toNat) r).bind fun t207 => (if t207 = true then (some true) else (colophonref01_begins.l2 k r n lo hi (i + 1)))) else (none)) else (none)) else (colophonref01_begins.l2 k r n lo hi (i + 1))) else (colophonref01_begins.l2 k r n lo hi (i + 1))) else (colophonref01_begins.l2 k r n lo hi (i + 1))) else (colophonref01_begins.l2 k r n lo hi (i + 1))) := by
    intro k
    simp only [colophonref01_begins.l2]
    rw [if_pos h4]
    simp only [Option.bind_some]
    rw [if_pos hn0, if_pos (by simp; omega), e1, if_pos h0, if_pos (by simp [cands]; omega), refEncode _ hrange, w64 (x := i + 1) (by omega) (by omega)]
  refine Ev.step head ?_
  by_cases hc : isCh (rd (cands n lo hi) i)
  · rw [encode_ch hc]
    simp only [Option.bind_some, if_true]
    by_cases a1 : rd (cands n lo hi) i ≥ lo
    · simp only [a1, if_true]
      by_cases a2 : rd (cands n lo hi) i ≤ hi
      · simp only [a2, if_true]
        by_cases a3 : ((enc (rd (cands n lo hi) i)).length : Int) = n
        · simp only [a3, if_true]
          have z0 : 0 ≤ (r.length : Int) := by omega
          simp only [z0, hr, if_true]
          have ne : ¬ (enc (rd (cands n lo hi) i)).take ((r.length : Int)).toNat = r := fun e => hf ⟨hc, a1, a2, a3, by simpa using e⟩
          have := eqBytes ((enc (rd (cands n lo hi) i)).take ((r.length : Int)).toNat) r (by have := (enc_pos (rd (cands n lo hi) i)).2; simp; omega)
          rw [decide_eq_false ne] at this
          refine Ev.bind this ?_
          simp only [Bool.false_eq_true, if_false]
          exact H
        · simp only [a3, if_false]; exact H
      · simp only [a2, if_false]; exact H
    · simp only [a1, if_false]; exact H
  · rw [encode_no hc]
    simp only [Option.bind_some]
    exact H
theorem l2_end {r : List Int} {n lo hi : Int} {R : Bool} (hn0 : 0 ≤ n) (hn : n ≤ 4) (H : Ev (fun k => colophonref01_begins.l0 k r (n + 1)) R) : Ev (fun k => colophonref01_begins.l2 k r n lo hi 4) R :=
  Ev.step (f := fun k => colophonref01_begins.l0 k r (n + 1)) (fun k => by simp only [colophonref01_begins.l2]; rw [if_neg (by omega), w64 (x := n + 1) (by omega) (by omega)]) H
theorem l2_yes {r : List Int} {n lo hi : Int} (hn0 : 0 ≤ n) (hn : n ≤ 4) (hr : (r.length : Int) ≤ n) (hlo0 : 0 ≤ lo) (hhi0 : hi ≤ 2097151) (hlh : lo ≤ hi) (h : ∃ c ∈ cands n lo hi, fits r n lo hi c) :
    Ev (fun k => colophonref01_begins.l2 k r n lo hi 0) true := by
  by_cases h0 : fits r n lo hi (rd (cands n lo hi) 0)
  · exact l2_hit hn0 hn hr (by omega) (by omega) h0
  refine l2_miss hn0 hn hr (by omega) (by omega) hlo0 hhi0 hlh h0 ?_
  by_cases h1 : fits r n lo hi (rd (cands n lo hi) (0 + 1))
  · exact l2_hit hn0 hn hr (by omega) (by omega) h1
  refine l2_miss hn0 hn hr (by omega) (by omega) hlo0 hhi0 hlh h1 ?_
  by_cases h2 : fits r n lo hi (rd (cands n lo hi) (0 + 1 + 1))
  · exact l2_hit hn0 hn hr (by omega) (by omega) h2
  refine l2_miss hn0 hn hr (by omega) (by omega) hlo0 hhi0 hlh h2 ?_
  by_cases h3 : fits r n lo hi (rd (cands n lo hi) (0 + 1 + 1 + 1))
  · exact l2_hit hn0 hn hr (by omega) (by omega) h3
  obtain ⟨c, hc, hf⟩ := h
  simp only [cands, List.mem_cons, List.not_mem_nil, or_false] at hc
  rcases hc with rfl | rfl | rfl | rfl
  · exact absurd hf h0
  · exact absurd hf h1
  · exact absurd hf h2
  · exact absurd hf h3
theorem l2_no {r : List Int} {n lo hi : Int} {R : Bool} (hn0 : 0 ≤ n) (hn : n ≤ 4) (hr : (r.length : Int) ≤ n) (hlo0 : 0 ≤ lo) (hhi0 : hi ≤ 2097151) (hlh : lo ≤ hi) (h : ¬ ∃ c ∈ cands n lo hi, fits r n lo hi c)
    (H : Ev (fun k => colophonref01_begins.l0 k r (n + 1)) R) : Ev (fun k => colophonref01_begins.l2 k r n lo hi 0) R := by
  have g : ∀ c ∈ cands n lo hi, ¬ fits r n lo hi c := fun c hc hf => h ⟨c, hc, hf⟩
  refine l2_miss hn0 hn hr (by omega) (by omega) hlo0 hhi0 hlh (g _ (by simp [cands, rd])) ?_
  refine l2_miss hn0 hn hr (by omega) (by omega) hlo0 hhi0 hlh (g _ (by simp [cands, rd])) ?_
  refine l2_miss hn0 hn hr (by omega) (by omega) hlo0 hhi0 hlh (g _ (by simp [cands, rd])) ?_
  refine l2_miss hn0 hn hr (by omega) (by omega) hlo0 hhi0 hlh (g _ (by simp [cands, rd])) ?_
  exact l2_end hn0 hn H

/-! The rows of the least and the greatest bytes. -/
theorem l1_push {r x y : List Int} {n : Int} {R : Bool} (h : (x.length : Int) < n) (hn : n ≤ 4) (hxy : x.length = y.length) (H : Ev (fun k => colophonref01_begins.l1 k r n (x ++ [128]) (y ++ [191])) R) : Ev (fun k => colophonref01_begins.l1 k r n x y) R :=
  Ev.step (f := fun k => colophonref01_begins.l1 k r n (x ++ [128]) (y ++ [191])) (fun k => by simp only [colophonref01_begins.l1]; rw [if_pos h, if_pos (by omega), if_pos (by omega)]) H
theorem l1_go {r x y : List Int} {n lo hi : Int} {R : Bool} (h : (x.length : Int) = n) (hx : Ev (fun k => colophonref01_joined.f k x n) lo) (hy : Ev (fun k => colophonref01_joined.f k y n) hi)
    (H : Ev (fun k => colophonref01_begins.l2 k r n lo hi 0) R) : Ev (fun k => colophonref01_begins.l1 k r n x y) R :=
  Ev.step (f := fun k => (colophonref01_joined.f k x n).bind fun a => (colophonref01_joined.f k y n).bind fun b => colophonref01_begins.l2 k r n a b 0) (fun k => by simp only [colophonref01_begins.l1]; rw [if_neg (by omega)]) (Ev.bind hx (Ev.bind hy H))
theorem b0_go {r : List Int} {n : Int} {R : Bool} (hn : n ≤ 4) (hr : r.length ≤ 4) (H : Ev (fun k => colophonref01_begins.l1 k r n r r) R) : Ev (fun k => colophonref01_begins.l0 k r n) R :=
  Ev.step (f := fun k => colophonref01_begins.l1 k r n r r) (fun k => by
    simp only [colophonref01_begins.l0]
    rw [if_pos hn]
    simp only [Option.bind_some]
    rw [if_pos (by simp; omega), if_pos (by simp; omega)]; simp) H
theorem b0_end {r : List Int} : Ev (fun k => colophonref01_begins.l0 k r 5) false :=
  Ev.step (f := fun _ => some false) (fun k => by simp only [colophonref01_begins.l0]; rw [if_neg (by omega)]) (Ev.now _)

/-- A length of which bytes may be the begin. -/
def lev (r : List Int) (n : Int) : Prop := ∃ c, isCh c ∧ ((enc c).length : Int) = n ∧ (enc c).take r.length = r

theorem enc_len {c : Int} (_h : isCh c) : ((enc c).length = 1 ∧ c < 128) ∨ ((enc c).length = 2 ∧ 128 ≤ c ∧ c < 2048) ∨ ((enc c).length = 3 ∧ 2048 ≤ c ∧ c < 65536) ∨ ((enc c).length = 4 ∧ 65536 ≤ c) := by
  rcases enc_cases c with ⟨b, e⟩ | ⟨b0, b, e⟩ | ⟨b0, b, e⟩ | ⟨b, e⟩ <;> rw [e] <;> simp <;> omega
/-- Where the numbers between two of n bytes are those of which the bytes are the begin. -/
theorem cand_of {r : List Int} {n lo hi : Int} (hn0 : 2 ≤ n) (hn : n ≤ 4)
    (hin : ∀ c, isCh c → ((enc c).length : Int) = n → (enc c).take r.length = r → lo ≤ c ∧ c ≤ hi)
    (hto : ∀ c c', isCh c → ((enc c).length : Int) = n → (enc c).take r.length = r → isCh c' → ((enc c').length : Int) = n → lo ≤ c' → c' ≤ hi → (enc c').take r.length = r) :
    (∃ c ∈ cands n lo hi, fits r n lo hi c) ↔ lev r n := by
  constructor
  · rintro ⟨c, _, h1, _, _, h4, h5⟩
    exact ⟨c, h1, h4, h5⟩
  · rintro ⟨c, h1, h2, h3⟩
    obtain ⟨g1, g2⟩ := hin c h1 h2 h3
    have hl := enc_len h1
    have hc1 := h1
    unfold isCh at hc1
    obtain ⟨m, hm⟩ : ∃ m, m = mx lo (least n) := ⟨_, rfl⟩
    have hleast : (n = 2 → least n = 128) ∧ (n = 3 → least n = 2048) ∧ (n = 4 → least n = 65536) := by
      refine ⟨?_, ?_, ?_⟩ <;> (intro e; subst e; rfl)
    have hm1 : lo ≤ m ∧ least n ≤ m ∧ (m = lo ∨ m = least n) := by
      rw [hm]; unfold mx; split <;> omega
    have hmc : m ≤ c := by omega
    by_cases hmch : isCh m
    · have hlm := enc_len hmch
      have hln : ((enc m).length : Int) = n := by omega
      exact ⟨m, by simp [cands, hm], hmch, hm1.1, by omega, hln, hto c m h1 h2 h3 hmch hln hm1.1 (by omega)⟩
    · have hs : 55296 ≤ m ∧ m ≤ 57343 := by unfold isCh at hmch; omega
      have h57 : isCh 57344 := by unfold isCh; omega
      have hl57 : (enc 57344).length = 3 := by decide
      have hn3 : n = 3 := by omega
      exact ⟨57344, by simp [cands], h57, by omega, by omega, by omega, hto c 57344 h1 h2 h3 h57 (by omega) (by omega) (by omega)⟩
end Go.Proofs.Ytifmnjobapegeab.Pure
