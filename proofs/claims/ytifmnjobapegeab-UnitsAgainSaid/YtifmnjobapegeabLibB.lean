/- The program's decoder against characters: what Encode writes is read, what is read is written, and what is neither. -/
import Derived.Test.YtifmnjobapegeabLibA
namespace Go.Proofs.Ytifmnjobapegeab.Pure
open Go.RowKit Go.Proofs.Ytifmnjobapegeab.PAll Go.Proofs.YtifmnjobapegeabW.PrintWords Go.Proofs.YtifmnjobapegeabW.PrintLast

theorem enc_bytes {c : Int} (h : isCh c) : isBytes (enc c) := by
  unfold isCh at h
  intro x hx
  rcases enc_cases c with ⟨b, e⟩ | ⟨b0, b, e⟩ | ⟨b0, b, e⟩ | ⟨b, e⟩ <;> rw [e] at hx <;> simp at hx
  · omega
  · rcases hx with rfl | rfl <;> omega
  · rcases hx with rfl | rfl | rfl <;> omega
  · rcases hx with rfl | rfl | rfl | rfl <;> omega

/-- What Encode writes is read, whatever stands behind it. -/
theorem dec_enc {c : Int} (h : isCh c) (t : List Int) : dec (enc c ++ t) = (c, ((enc c).length : Int), 0) := by
  unfold isCh at h
  rcases enc_cases c with ⟨b, e⟩ | ⟨b0, b, e⟩ | ⟨b0, b, e⟩ | ⟨b, e⟩ <;> rw [e]
  · simp [dec, b]
  · have h1 : ¬ 192 + c / 64 < 128 := by omega
    have h2 : ¬ 192 + c / 64 < 194 := by omega
    have h3 : 192 + c / 64 < 224 := by omega
    have h4 : ¬ (128 + c % 64 < 128 ∨ 191 < 128 + c % 64) := by omega
    simp only [List.cons_append, List.nil_append, dec, h1, h2, h3, h4, if_true, if_false]
    rw [show (192 + c / 64) % 32 * 64 + (128 + c % 64) % 64 = c by omega]; rfl
  · have h1 : ¬ 224 + c / 4096 < 128 := by omega
    have h2 : ¬ 224 + c / 4096 < 194 := by omega
    have h3 : ¬ 224 + c / 4096 < 224 := by omega
    have h5 : 224 + c / 4096 < 240 := by omega
    have h4 : ¬ (128 + c % 64 < 128 ∨ 191 < 128 + c % 64) := by omega
    have h6 : ¬ (128 + c / 64 % 64 < (if 224 + c / 4096 = 224 then 160 else 128) ∨ (if 224 + c / 4096 = 237 then 159 else 191) < 128 + c / 64 % 64) := by
      split <;> split <;> omega
    simp only [List.cons_append, List.nil_append, dec, h1, h2, h3, h4, h5, h6, if_true, if_false]
    rw [show ((224 + c / 4096) % 16 * 64 + (128 + c / 64 % 64) % 64) * 64 + (128 + c % 64) % 64 = c by omega]; rfl
  · have h1 : ¬ 240 + c / 262144 < 128 := by omega
    have h2 : ¬ 240 + c / 262144 < 194 := by omega
    have h3 : ¬ 240 + c / 262144 < 224 := by omega
    have h5 : ¬ 240 + c / 262144 < 240 := by omega
    have h7 : 240 + c / 262144 ≤ 244 := by omega
    have h4 : ¬ (128 + c % 64 < 128 ∨ 191 < 128 + c % 64) := by omega
    have h8 : ¬ (128 + c / 64 % 64 < 128 ∨ 191 < 128 + c / 64 % 64) := by omega
    have h6 : ¬ (128 + c / 4096 % 64 < (if 240 + c / 262144 = 240 then 144 else 128) ∨ (if 240 + c / 262144 = 244 then 143 else 191) < 128 + c / 4096 % 64) := by
      split <;> split <;> omega
    simp only [List.cons_append, List.nil_append, dec, h1, h2, h3, h4, h5, h6, h7, h8, if_true, if_false]
    rw [show (((240 + c / 262144) % 8 * 64 + (128 + c / 4096 % 64) % 64) * 64 + (128 + c / 64 % 64) % 64) * 64 + (128 + c % 64) % 64 = c by omega]; rfl

/-- A piece of a character: bytes, not all, at least one. -/
def piece (r : List Int) : Prop := ∃ c t, isCh c ∧ enc c = r ++ t ∧ r ≠ [] ∧ t ≠ []

/-- What may stand at the begin of bytes. -/
inductive Seen (r : List Int) : Int × Int × Int → Prop
  | char (c : Int) (t : List Int) (h : isCh c) (e : r = enc c ++ t) : Seen r (c, ((enc c).length : Int), 0)
  | piece (h : piece r) : Seen r (0, 0, 3)
  | none (h1 : ∀ c t, isCh c → r ≠ enc c ++ t) (h2 : ¬ piece r) : Seen r (0, 0, 10)


theorem dec_piece {r : List Int} (h : piece r) : dec r = (0, 0, 3) := by
  obtain ⟨c, t, hc, he, hr, ht⟩ := h
  unfold isCh at hc
  obtain ⟨b, r, rfl⟩ : ∃ b r', r = b :: r' := by
    cases r with
    | nil => exact absurd rfl hr
    | cons b t => exact ⟨b, t, rfl⟩
  obtain ⟨z, t, rfl⟩ : ∃ b r', t = b :: r' := by
    cases t with
    | nil => exact absurd rfl ht
    | cons b t => exact ⟨b, t, rfl⟩
  rcases enc_cases c with ⟨g, e⟩ | ⟨g0, g, e⟩ | ⟨g0, g, e⟩ | ⟨g, e⟩ <;> rw [e] at he
  · simp at he
  · (rw [List.cons_append, List.cons.injEq] at he); (obtain ⟨rfl, he⟩ := he)
    have h1 : ¬ 192 + c / 64 < 128 := by omega
    have h2 : ¬ 192 + c / 64 < 194 := by omega
    have h3 : 192 + c / 64 < 224 := by omega
    cases r with
    | nil => simp only [dec, h1, h2, h3, if_true, if_false]
    | cons x r => simp at he
  · (rw [List.cons_append, List.cons.injEq] at he); (obtain ⟨rfl, he⟩ := he)
    have h1 : ¬ 224 + c / 4096 < 128 := by omega
    have h2 : ¬ 224 + c / 4096 < 194 := by omega
    have h3 : ¬ 224 + c / 4096 < 224 := by omega
    have h5 : 224 + c / 4096 < 240 := by omega
    have h6 : ¬ (128 + c / 64 % 64 < (if 224 + c / 4096 = 224 then 160 else 128) ∨ (if 224 + c / 4096 = 237 then 159 else 191) < 128 + c / 64 % 64) := by
      split <;> split <;> omega
    cases r with
    | nil => simp only [dec, h1, h2, h3, h5, if_true, if_false]
    | cons x r =>
      (rw [List.cons_append, List.cons.injEq] at he); (obtain ⟨rfl, he⟩ := he)
      cases r with
      | nil => simp only [dec, h1, h2, h3, h5, h6, if_true, if_false]
      | cons x r => simp at he
  · (rw [List.cons_append, List.cons.injEq] at he); (obtain ⟨rfl, he⟩ := he)
    have h1 : ¬ 240 + c / 262144 < 128 := by omega
    have h2 : ¬ 240 + c / 262144 < 194 := by omega
    have h3 : ¬ 240 + c / 262144 < 224 := by omega
    have h5 : ¬ 240 + c / 262144 < 240 := by omega
    have h7 : 240 + c / 262144 ≤ 244 := by omega
    have h8 : ¬ (128 + c / 64 % 64 < 128 ∨ 191 < 128 + c / 64 % 64) := by omega
    have h6 : ¬ (128 + c / 4096 % 64 < (if 240 + c / 262144 = 240 then 144 else 128) ∨ (if 240 + c / 262144 = 244 then 143 else 191) < 128 + c / 4096 % 64) := by
      split <;> split <;> omega
    cases r with
    | nil => simp only [dec, h1, h2, h3, h5, h7, if_true, if_false]
    | cons x r =>
      (rw [List.cons_append, List.cons.injEq] at he); (obtain ⟨rfl, he⟩ := he)
      cases r with
      | nil => simp only [dec, h1, h2, h3, h5, h6, h7, if_true, if_false]
      | cons x r =>
        (rw [List.cons_append, List.cons.injEq] at he); (obtain ⟨rfl, he⟩ := he)
        cases r with
        | nil => simp only [dec, h1, h2, h3, h5, h6, h7, h8, if_true, if_false]
        | cons x r => simp at he

theorem seen_none {r : List Int} (h : dec r = (0, 0, 10)) : Seen r (0, 0, 10) := by
  refine .none (fun c t hc e => ?_) (fun hp => ?_)
  · rw [e, dec_enc hc] at h; simp at h
  · rw [dec_piece hp] at h; simp at h
theorem seen_piece {r t : List Int} {c : Int} (hr : r ≠ []) (hc : isCh c) (e : enc c = r ++ t) (ht : t ≠ []) : Seen r (dec r) := by
  have hp : piece r := ⟨c, t, hc, e, hr, ht⟩
  rw [dec_piece hp]; exact .piece hp
theorem seen_char {r t : List Int} {c : Int} (hc : isCh c) (e : r = enc c ++ t) : Seen r (dec r) := by
  rw [e, dec_enc hc]; exact .char c t hc rfl

theorem dec_seen (r : List Int) (hr : r ≠ []) (hb : isBytes r) : Seen r (dec r) := by
  obtain ⟨b, t, rfl⟩ : ∃ b t, r = b :: t := by
    cases r with
    | nil => exact absurd rfl hr
    | cons b t => exact ⟨b, t, rfl⟩
  have hbb := hb b (by simp)
  by_cases h1 : b < 128
  · exact seen_char (c := b) (t := t) (by unfold isCh; omega) (by rw [enc1 h1]; rfl)
  · by_cases h2 : b < 194
    · have e : dec (b :: t) = (0, 0, 10) := by simp only [dec, h1, h2, if_true, if_false]
      rw [e]; exact seen_none e
    · by_cases h3 : b < 224
      · cases t with
        | nil => exact seen_piece (c := (b % 32) * 64) (t := [128]) (by simp) (by unfold isCh; omega) (by rw [enc2 (by omega) (by omega)]; simp; omega) (by simp)
        | cons x t =>
          have hxb := hb x (by simp)
          by_cases hx : x < 128 ∨ 191 < x
          · have e : dec (b :: x :: t) = (0, 0, 10) := by simp only [dec, h1, h2, h3, hx, if_true, if_false]
            rw [e]; exact seen_none e
          · exact seen_char (c := (b % 32) * 64 + x % 64) (t := t) (by unfold isCh; omega) (by rw [enc2 (by omega) (by omega)]; simp; omega)
      · by_cases h4 : b < 240
        · obtain ⟨lo, hlo⟩ : ∃ lo, lo = (if b = 224 then (160 : Int) else 128) := ⟨_, rfl⟩
          obtain ⟨hi, hhi⟩ : ∃ hi, hi = (if b = 237 then (159 : Int) else 191) := ⟨_, rfl⟩
          have L : 128 ≤ lo ∧ (b = 224 → lo = 160) ∧ lo ≤ 160 ∧ (b ≠ 224 → lo = 128) := by rw [hlo]; split <;> omega
          have H : hi ≤ 191 ∧ (b = 237 → hi = 159) ∧ 159 ≤ hi := by rw [hhi]; split <;> omega
          cases t with
          | nil => exact seen_piece (c := (b % 16) * 4096 + (lo - 128) * 64) (t := [lo, 128]) (by simp) (by unfold isCh; omega) (by rw [enc3 (by omega) (by omega)]; simp; omega) (by simp)
          | cons x t =>
            have hxb := hb x (by simp)
            by_cases hx : x < lo ∨ hi < x
            · have e : dec (b :: x :: t) = (0, 0, 10) := by simp only [dec, h1, h2, h3, h4, ← hlo, ← hhi, hx, if_true, if_false]
              rw [e]; exact seen_none e
            · cases t with
              | nil => exact seen_piece (c := (b % 16) * 4096 + (x % 64) * 64) (t := [128]) (by simp) (by unfold isCh; omega) (by rw [enc3 (by omega) (by omega)]; simp; omega) (by simp)
              | cons y t =>
                have hyb := hb y (by simp)
                by_cases hy : y < 128 ∨ 191 < y
                · have e : dec (b :: x :: y :: t) = (0, 0, 10) := by simp only [dec, h1, h2, h3, h4, ← hlo, ← hhi, hx, hy, if_true, if_false]
                  rw [e]; exact seen_none e
                · exact seen_char (c := (b % 16) * 4096 + (x % 64) * 64 + y % 64) (t := t) (by unfold isCh; omega) (by rw [enc3 (by omega) (by omega)]; simp; omega)
        · by_cases h5 : b ≤ 244
          · obtain ⟨lo, hlo⟩ : ∃ lo, lo = (if b = 240 then (144 : Int) else 128) := ⟨_, rfl⟩
            obtain ⟨hi, hhi⟩ : ∃ hi, hi = (if b = 244 then (143 : Int) else 191) := ⟨_, rfl⟩
            have L : 128 ≤ lo ∧ (b = 240 → lo = 144) ∧ lo ≤ 144 ∧ (b ≠ 240 → lo = 128) := by rw [hlo]; split <;> omega
            have H : hi ≤ 191 ∧ (b = 244 → hi = 143) ∧ 143 ≤ hi := by rw [hhi]; split <;> omega
            cases t with
            | nil => exact seen_piece (c := (b % 8) * 262144 + (lo - 128) * 4096) (t := [lo, 128, 128]) (by simp) (by unfold isCh; omega) (by rw [enc4 (by omega)]; simp; omega) (by simp)
            | cons x t =>
              have hxb := hb x (by simp)
              by_cases hx : x < lo ∨ hi < x
              · have e : dec (b :: x :: t) = (0, 0, 10) := by simp only [dec, h1, h2, h3, h4, h5, ← hlo, ← hhi, hx, if_true, if_false]
                rw [e]; exact seen_none e
              · cases t with
                | nil => exact seen_piece (c := (b % 8) * 262144 + (x % 64) * 4096) (t := [128, 128]) (by simp) (by unfold isCh; omega) (by rw [enc4 (by omega)]; simp; omega) (by simp)
                | cons y t =>
                  have hyb := hb y (by simp)
                  by_cases hy : y < 128 ∨ 191 < y
                  · have e : dec (b :: x :: y :: t) = (0, 0, 10) := by simp only [dec, h1, h2, h3, h4, h5, ← hlo, ← hhi, hx, hy, if_true, if_false]
                    rw [e]; exact seen_none e
                  · cases t with
                    | nil => exact seen_piece (c := (b % 8) * 262144 + (x % 64) * 4096 + (y % 64) * 64) (t := [128]) (by simp) (by unfold isCh; omega) (by rw [enc4 (by omega)]; simp; omega) (by simp)
                    | cons z t =>
                      have hzb := hb z (by simp)
                      by_cases hz : z < 128 ∨ 191 < z
                      · have e : dec (b :: x :: y :: z :: t) = (0, 0, 10) := by simp only [dec, h1, h2, h3, h4, h5, ← hlo, ← hhi, hx, hy, hz, if_true, if_false]
                        rw [e]; exact seen_none e
                      · exact seen_char (c := (b % 8) * 262144 + (x % 64) * 4096 + (y % 64) * 64 + z % 64) (t := t) (by unfold isCh; omega) (by rw [enc4 (by omega)]; simp; omega)
          · have e : dec (b :: t) = (0, 0, 10) := by simp only [dec, h1, h2, h3, h4, h5, if_false]
            rw [e]; exact seen_none e
end Go.Proofs.Ytifmnjobapegeab.Pure
