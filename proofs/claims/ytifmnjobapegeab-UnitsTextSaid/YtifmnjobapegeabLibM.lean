/- Plain words on characters, their bytes, and what stands at the begin of bytes. The program's decoder against characters: what Encode writes is read, what is read is written, and what is neither. The document's decoder reads what the program's decoder reads. The document's decoder reads what the program's decoder reads (second part). Bytes, read character by character: what Check and Count answer. The document's Check and Count. Units of characters: what the program's Of, Of16, Offset and Text answer. What the program's Offset and Text answer. The statements' own helpers: the text of characters, units held against units, the chapter's text. What the document's units answers. What the document's Offset and Text answer. -/
import Derived.Test.YtifmnjobapegeabPAllx16
import Derived.Test.YtifmnjobapegeabPAllx9
import Derived.Test.YtifmnjobapegeabPAllx7
import Derived.Test.YtifmnjobapegeabPAllx3
import Derived.Test.YtifmnjobapegeabPAllx1
import Derived.Test.YtifmnjobapegeabPAllx10
import Derived.Test.YtifmnjobapegeabPAllx11
import Derived.Test.YtifmnjobapegeabPAllx12
import Derived.Test.YtifmnjobapegeabPAllx4
import Derived.Test.YtifmnjobapegeabPAllx13
import Derived.Test.YtifmnjobapegeabPAllx6
import Derived.Test.YtifmnjobapegeabPAllx19
import Derived.Test.YtifmnjobapegeabPAllx20
import Derived.Test.YtifmnjobapegeabPAllx17
import Derived.Test.YtifmnjobapegeabPAllx18
import Derived.Test.YtifmnjobapegeabPAllx22
import Derived.Test.YtifmnjobapegeabPAllx14
import Derived.Test.YtifmnjobapegeabPAllx15
import Derived.Test.YtifmnjobapegeabPAllx24
namespace Go.Proofs.Ytifmnjobapegeab.Pure
open Go.RowKit Go.Proofs.Ytifmnjobapegeab.PAll Go.Proofs.YtifmnjobapegeabW.PrintWords Go.Proofs.YtifmnjobapegeabW.PrintLast

/-- A character. -/
def isCh (c : Int) : Prop := 0 ≤ c ∧ c ≤ 1114111 ∧ (c < 55296 ∨ 57343 < c)
instance (c : Int) : Decidable (isCh c) := inferInstanceAs (Decidable (_ ∧ _ ∧ _))
/-- Its bytes. -/
def enc (c : Int) : List Int :=
  if c < 128 then [c] else if c < 2048 then [192 + c / 64, 128 + c % 64]
  else if c < 65536 then [224 + c / 4096, 128 + c / 64 % 64, 128 + c % 64]
  else [240 + c / 262144, 128 + c / 4096 % 64, 128 + c / 64 % 64, 128 + c % 64]

theorem enc1 {c : Int} (h : c < 128) : enc c = [c] := by unfold enc; rw [if_pos h]
theorem enc2 {c : Int} (h : 128 ≤ c) (h1 : c < 2048) : enc c = [192 + c / 64, 128 + c % 64] := by
  unfold enc; rw [if_neg (by omega), if_pos h1]
theorem enc3 {c : Int} (h : 2048 ≤ c) (h1 : c < 65536) : enc c = [224 + c / 4096, 128 + c / 64 % 64, 128 + c % 64] := by
  unfold enc; rw [if_neg (by omega), if_neg (by omega), if_pos h1]
theorem enc4 {c : Int} (h : 65536 ≤ c) : enc c = [240 + c / 262144, 128 + c / 4096 % 64, 128 + c / 64 % 64, 128 + c % 64] := by
  unfold enc; rw [if_neg (by omega), if_neg (by omega), if_neg (by omega)]

theorem enc_cases (c : Int) : (c < 128 ∧ enc c = [c]) ∨ (128 ≤ c ∧ c < 2048 ∧ enc c = [192 + c / 64, 128 + c % 64]) ∨
    (2048 ≤ c ∧ c < 65536 ∧ enc c = [224 + c / 4096, 128 + c / 64 % 64, 128 + c % 64]) ∨
    (65536 ≤ c ∧ enc c = [240 + c / 262144, 128 + c / 4096 % 64, 128 + c / 64 % 64, 128 + c % 64]) := by
  by_cases h1 : c < 128
  · exact .inl ⟨h1, enc1 h1⟩
  · by_cases h2 : c < 2048
    · exact .inr (.inl ⟨by omega, h2, enc2 (by omega) h2⟩)
    · by_cases h3 : c < 65536
      · exact .inr (.inr (.inl ⟨by omega, h3, enc3 (by omega) h3⟩))
      · exact .inr (.inr (.inr ⟨by omega, enc4 (by omega)⟩))

theorem enc_pos (c : Int) : 1 ≤ (enc c).length ∧ (enc c).length ≤ 4 := by
  rcases enc_cases c with ⟨_, h⟩ | ⟨_, _, h⟩ | ⟨_, _, h⟩ | ⟨_, h⟩ <;> rw [h] <;> simp

theorem encode_ch {c : Int} (h : isCh c) : runes_Encode.f c = some (enc c, 0) := by
  unfold isCh at h
  unfold runes_Encode.f enc
  rw [if_neg (by omega)]
  split
  · rfl
  · split
    · rfl
    · split <;> rfl
theorem encode_no {c : Int} (h : ¬ isCh c) : runes_Encode.f c = some ([], 10) := by
  unfold isCh at h
  unfold runes_Encode.f
  rw [if_pos (by omega)]

/-- Bytes. -/
def isBytes (l : List Int) : Prop := ∀ x ∈ l, 0 ≤ x ∧ x ≤ 255

/-- What stands at the begin of bytes: the character, its bytes' number, the error. -/
def dec : List Int → Int × Int × Int
  | [] => (0, 0, 9)
  | b :: t =>
    if b < 128 then (b, 1, 0)
    else if b < 194 then (0, 0, 10)
    else if b < 224 then
      match t with
      | [] => (0, 0, 3)
      | x :: _ => if x < 128 ∨ 191 < x then (0, 0, 10) else ((b % 32) * 64 + x % 64, 2, 0)
    else if b < 240 then
      match t with
      | [] => (0, 0, 3)
      | x :: t => if x < (if b = 224 then 160 else 128) ∨ (if b = 237 then 159 else 191) < x then (0, 0, 10) else
        match t with
        | [] => (0, 0, 3)
        | y :: _ => if y < 128 ∨ 191 < y then (0, 0, 10) else (((b % 16) * 64 + x % 64) * 64 + y % 64, 3, 0)
    else if b ≤ 244 then
      match t with
      | [] => (0, 0, 3)
      | x :: t => if x < (if b = 240 then 144 else 128) ∨ (if b = 244 then 143 else 191) < x then (0, 0, 10) else
        match t with
        | [] => (0, 0, 3)
        | y :: t => if y < 128 ∨ 191 < y then (0, 0, 10) else
          match t with
          | [] => (0, 0, 3)
          | z :: _ => if z < 128 ∨ 191 < z then (0, 0, 10) else ((((b % 8) * 64 + x % 64) * 64 + y % 64) * 64 + z % 64, 4, 0)
    else (0, 0, 10)

/-! The loop of the program's decoder. -/
theorem or6 (x y : Int) (hx : 0 ≤ x) (hx1 : x < 4294967296) (hy : 0 ≤ y) (hy1 : y < 64) : bits .or .i64 (wrap64 (x * 64)) (wrap64 y) = x * 64 + y := by
  have e1 : wrap64 (x * 64) = x * 64 := by unfold wrap64; omega
  have e2 : wrap64 y = y := by unfold wrap64; omega
  rw [e1, e2]
  exact bits_join .i64 40 (by decide) (fun n h0 h1 => by rw [IntKind.wrap_i64]; omega) 6 (x * 64) y (by omega) (by omega) (by omega) hy (by omega) (by omega)

theorem l0_done {r : List Int} {c s lo hi i : Int} (h : ¬ i < s) : Ev (fun k => runes_Decode.l0 k c s r lo hi i) (c, s, 0) :=
  Ev.step (f := fun _ => some (c, s, 0)) (fun k => by simp only [runes_Decode.l0]; rw [if_neg h]) (Ev.now _)
theorem l0_trunc {r : List Int} {c s lo hi i : Int} (h : i < s) (e : i = (r.length : Int)) : Ev (fun k => runes_Decode.l0 k c s r lo hi i) (0, 0, 3) :=
  Ev.step (f := fun _ => some (0, 0, 3)) (fun k => by simp only [runes_Decode.l0]; rw [if_pos h, if_pos e]) (Ev.now _)
theorem l0_bad {r : List Int} {c s lo hi i : Int} (h : i < s) (h0 : 0 ≤ i) (e : i < (r.length : Int)) (b : rd r i < lo ∨ hi < rd r i) : Ev (fun k => runes_Decode.l0 k c s r lo hi i) (0, 0, 10) :=
  Ev.step (f := fun _ => some (0, 0, 10)) (fun k => by
    simp only [runes_Decode.l0]; rw [if_pos h, if_neg (by omega), if_pos h0, if_pos e]
    by_cases b1 : rd r i < lo
    · rw [if_pos b1]
    · rw [if_neg b1, if_pos (by omega)]) (Ev.now _)
theorem l0_next {r : List Int} {c s lo hi i : Int} {R : Int × Int × Int} (h : i < s) (h0 : 0 ≤ i) (hi4 : i < 10) (e : i < (r.length : Int)) (b0 : lo ≤ rd r i) (b1 : rd r i ≤ hi) (hlo : 128 ≤ lo) (hhi : hi ≤ 191) (hc0 : 0 ≤ c) (hc1 : c < 4294967296)
    (H : Ev (fun k => runes_Decode.l0 k (c * 64 + rd r i % 64) s r 128 191 (i + 1)) R) : Ev (fun k => runes_Decode.l0 k c s r lo hi i) R :=
  Ev.step (f := fun k => runes_Decode.l0 k (c * 64 + rd r i % 64) s r 128 191 (i + 1)) (fun k => by
    simp only [runes_Decode.l0]
    rw [if_pos h, if_neg (by omega), if_pos h0, if_pos e, if_neg (by omega), if_neg (by omega), u8_and63 _ (by omega) (by omega), or6 _ _ hc0 hc1 (by omega) (by omega), show wrap64 (i + 1) = i + 1 by unfold wrap64; omega]) H

theorem form_j0t (x a b : Int) : Ev (fun k => runes_form.j0 k x a b true) (0, 0, 0, 0) :=
  Ev.step (f := fun _ => some (0, 0, 0, 0)) (fun k => by simp only [runes_form.j0, if_true]) (Ev.now _)
/-- The form of a first byte. -/
def form (b : Int) : Int × Int × Int × Int :=
  if b < 128 then (1, 127, 128, 191) else if b < 194 then (0, 0, 0, 0) else if b > 244 then (0, 0, 0, 0) else if b < 224 then (2, 31, 128, 191)
  else if b < 240 then (3, 15, if b = 224 then 160 else 128, if b = 237 then 159 else 191) else (4, 7, if b = 240 then 144 else 128, if b = 244 then 143 else 191)
theorem form_eq (b : Int) : Ev (fun k => runes_form.f k b) (form b) := by
  unfold runes_form.f form
  by_cases h1 : b < 128
  · simp only [h1, if_true]; exact Ev.now _
  · by_cases h2 : b < 194
    · simp only [h1, h2, if_true, if_false]; exact form_j0t _ _ _
    · by_cases h3 : b > 244
      · simp only [h1, h2, h3, if_true, if_false, decide_true]; exact form_j0t _ _ _
      · simp only [h1, h2, h3, if_false, decide_false]
        refine Ev.step (f := fun _ => some (if b < 224 then (2, 31, 128, 191)
          else if b < 240 then (3, 15, if b = 224 then 160 else 128, if b = 237 then 159 else 191) else (4, 7, if b = 240 then 144 else 128, if b = 244 then 143 else 191))) (fun k => ?_) (Ev.now _)
        simp only [runes_form.j0]
        (repeat' split) <;> first | rfl | omega | (exfalso; simp at *; done)

theorem rd0 (b : Int) (t : List Int) : rd (b :: t) 0 = b := rfl
theorem rd1 (b x : Int) (t : List Int) : rd (b :: x :: t) 1 = x := rfl
theorem rd2 (b x y : Int) (t : List Int) : rd (b :: x :: y :: t) 2 = y := rfl
theorem rd3 (b x y z : Int) (t : List Int) : rd (b :: x :: y :: z :: t) 3 = z := rfl

/-- The loop behind a first byte, by its form. -/
theorem loop_eq (r : List Int) (hr : r ≠ []) (hb : isBytes r) (h0 : (form (rd r 0)).1 ≠ 0) :
    Ev (fun k => runes_Decode.l0 k (wrap64 (Go.bits .and .u8 (rd r 0) (form (rd r 0)).2.1)) (form (rd r 0)).1 r (form (rd r 0)).2.2.1 (form (rd r 0)).2.2.2 1) (dec r) := by
  obtain ⟨b, t, rfl⟩ : ∃ b t, r = b :: t := by
    cases r with
    | nil => exact absurd rfl hr
    | cons b t => exact ⟨b, t, rfl⟩
  have hbb := hb b (by simp)
  rw [rd0] at h0 ⊢
  unfold form at h0 ⊢
  unfold dec
  by_cases h1 : b < 128
  · simp only [h1, if_true]
    have e127 : bits .and .u8 b 127 = b := by
      have := bits_mask .u8 8 (by decide) wraps_u8 7 (by decide) b (by omega) (by omega)
      have e : (2 : Int) ^ 7 - 1 = 127 := by decide
      have e2 : (2 : Int) ^ 7 = 128 := by decide
      rw [e, e2] at this
      rw [this]; omega
    rw [e127, show wrap64 b = b by unfold wrap64; omega]
    exact l0_done (by omega)
  · by_cases h2 : b < 194
    · simp [h1, h2] at h0
    · by_cases h3 : b > 244
      · simp [h1, h2, h3] at h0
      · have h3' : b ≤ 244 := by omega
        by_cases h4 : b < 224
        · simp only [h1, h2, h3, h4, if_true, if_false]
          rw [u8_and31 _ (by omega) (by omega), show wrap64 (b % 32) = b % 32 by unfold wrap64; omega]
          cases t with
          | nil => exact l0_trunc (by omega) (by simp)
          | cons x t =>
            have hxb := hb x (by simp)
            by_cases hx : x < 128 ∨ 191 < x
            · simp only [hx, if_true]
              exact l0_bad (by omega) (by omega) (by simp; omega) (by rw [rd1]; omega)
            · simp only [hx, if_false]
              refine l0_next (by omega) (by omega) (by omega) (by simp; omega) (by rw [rd1]; omega) (by rw [rd1]; omega) (by omega) (by omega) (by omega) (by omega) ?_
              rw [rd1]
              exact l0_done (by omega)
        · by_cases h5 : b < 240
          · simp only [h1, h2, h3, h4, h5, if_true, if_false]
            rw [u8_and15 _ (by omega) (by omega), show wrap64 (b % 16) = b % 16 by unfold wrap64; omega]
            obtain ⟨lo, hlo⟩ : ∃ lo, lo = (if b = 224 then (160 : Int) else 128) := ⟨_, rfl⟩
            obtain ⟨hi, hhi⟩ : ∃ hi, hi = (if b = 237 then (159 : Int) else 191) := ⟨_, rfl⟩
            rw [← hlo, ← hhi]
            have L : 128 ≤ lo := by rw [hlo]; split <;> omega
            have H : hi ≤ 191 := by rw [hhi]; split <;> omega
            cases t with
            | nil => exact l0_trunc (by omega) (by simp)
            | cons x t =>
              have hxb := hb x (by simp)
              by_cases hx : x < lo ∨ hi < x
              · simp only [hx, if_true]
                exact l0_bad (by omega) (by omega) (by simp; omega) (by rw [rd1]; omega)
              · simp only [hx, if_false]
                refine l0_next (by omega) (by omega) (by omega) (by simp; omega) (by rw [rd1]; omega) (by rw [rd1]; omega) L H (by omega) (by omega) ?_
                rw [rd1]
                cases t with
                | nil => exact l0_trunc (by omega) (by simp)
                | cons y t =>
                  have hyb := hb y (by simp)
                  by_cases hy : y < 128 ∨ 191 < y
                  · simp only [hy, if_true]
                    exact l0_bad (by omega) (by omega) (by simp; omega) (by show rd (b :: x :: y :: t) 2 < 128 ∨ 191 < rd (b :: x :: y :: t) 2; rw [rd2]; omega)
                  · simp only [hy, if_false]
                    refine l0_next (by omega) (by omega) (by omega) (by simp; omega) (by show 128 ≤ rd (b :: x :: y :: t) 2; rw [rd2]; omega) (by show rd (b :: x :: y :: t) 2 ≤ 191; rw [rd2]; omega) (by omega) (by omega) (by omega) (by omega) ?_
                    show Ev (fun k => runes_Decode.l0 k (((b % 16) * 64 + x % 64) * 64 + rd (b :: x :: y :: t) 2 % 64) 3 (b :: x :: y :: t) 128 191 3) _
                    rw [rd2]
                    exact l0_done (by omega)
          · simp only [h1, h2, h3, h3', h4, h5, if_true, if_false]
            rw [u8_and7 _ (by omega) (by omega), show wrap64 (b % 8) = b % 8 by unfold wrap64; omega]
            obtain ⟨lo, hlo⟩ : ∃ lo, lo = (if b = 240 then (144 : Int) else 128) := ⟨_, rfl⟩
            obtain ⟨hi, hhi⟩ : ∃ hi, hi = (if b = 244 then (143 : Int) else 191) := ⟨_, rfl⟩
            rw [← hlo, ← hhi]
            have L : 128 ≤ lo := by rw [hlo]; split <;> omega
            have H : hi ≤ 191 := by rw [hhi]; split <;> omega
            cases t with
            | nil => exact l0_trunc (by omega) (by simp)
            | cons x t =>
              have hxb := hb x (by simp)
              by_cases hx : x < lo ∨ hi < x
              · simp only [hx, if_true]
                exact l0_bad (by omega) (by omega) (by simp; omega) (by rw [rd1]; omega)
              · simp only [hx, if_false]
                refine l0_next (by omega) (by omega) (by omega) (by simp; omega) (by rw [rd1]; omega) (by rw [rd1]; omega) L H (by omega) (by omega) ?_
                rw [rd1]
                cases t with
                | nil => exact l0_trunc (by omega) (by simp)
                | cons y t =>
                  have hyb := hb y (by simp)
                  by_cases hy : y < 128 ∨ 191 < y
                  · simp only [hy, if_true]
                    exact l0_bad (by omega) (by omega) (by simp; omega) (by show rd (b :: x :: y :: t) 2 < 128 ∨ 191 < rd (b :: x :: y :: t) 2; rw [rd2]; omega)
                  · simp only [hy, if_false]
                    refine l0_next (by omega) (by omega) (by omega) (by simp; omega) (by show 128 ≤ rd (b :: x :: y :: t) 2; rw [rd2]; omega) (by show rd (b :: x :: y :: t) 2 ≤ 191; rw [rd2]; omega) (by omega) (by omega) (by omega) (by omega) ?_
                    show Ev (fun k => runes_Decode.l0 k (((b % 8) * 64 + x % 64) * 64 + rd (b :: x :: y :: t) 2 % 64) 4 (b :: x :: y :: t) 128 191 3) _
                    rw [rd2]
                    cases t with
                    | nil => exact l0_trunc (by omega) (by simp)
                    | cons z t =>
                      have hzb := hb z (by simp)
                      by_cases hz : z < 128 ∨ 191 < z
                      · simp only [hz, if_true]
                        exact l0_bad (by omega) (by omega) (by simp; omega) (by rw [rd3]; omega)
                      · simp only [hz, if_false]
                        refine l0_next (by omega) (by omega) (by omega) (by simp; omega) (by rw [rd3]; omega) (by rw [rd3]; omega) (by omega) (by omega) (by omega) (by omega) ?_
                        rw [rd3]
                        exact l0_done (by omega)

theorem form_zero (r : List Int) (hr : r ≠ []) (h0 : (form (rd r 0)).1 = 0) : dec r = (0, 0, 10) := by
  obtain ⟨b, t, rfl⟩ : ∃ b t, r = b :: t := by
    cases r with
    | nil => exact absurd rfl hr
    | cons b t => exact ⟨b, t, rfl⟩
  rw [rd0] at h0
  unfold form at h0
  unfold dec
  by_cases h1 : b < 128
  · simp [h1] at h0
  · by_cases h2 : b < 194
    · simp only [h1, h2, if_true, if_false]
    · by_cases h3 : b > 244
      · have h4 : ¬ b < 224 := by omega
        have h5 : ¬ b < 240 := by omega
        have h6 : ¬ b ≤ 244 := by omega
        simp only [h1, h2, h4, h5, h6, if_false]
      · exfalso
        by_cases h4 : b < 224
        · simp [h1, h2, h3, h4] at h0
        · by_cases h5 : b < 240 <;> simp [h1, h2, h3, h4, h5] at h0

theorem decode_out {l : List Int} {i : Int} (h : i < 0 ∨ (l.length : Int) ≤ i) : Ev (fun k => runes_Decode.f k l i) (0, 0, 9) := by
  have J : Ev (fun k => runes_Decode.j0 k l i true) (0, 0, 9) := Ev.step (f := fun _ => some (0, 0, 9)) (fun k => by simp only [runes_Decode.j0, if_true]) (Ev.now _)
  unfold runes_Decode.f
  by_cases h1 : i < 0
  · simp only [h1, if_true]; exact J
  · have h2 : i ≥ (l.length : Int) := by omega
    simp only [h1, h2, if_false, decide_true]; exact J
theorem decode_in {l : List Int} {i : Int} (h0 : 0 ≤ i) (h1 : i < (l.length : Int)) (hb : isBytes l) : Ev (fun k => runes_Decode.f k l i) (dec (l.drop i.toNat)) := by
  have hd : isBytes (l.drop i.toNat) := fun x hx => hb x (List.mem_of_mem_drop hx)
  have hlen : (l.drop i.toNat).length = l.length - i.toNat := List.length_drop
  have hne : l.drop i.toNat ≠ [] := by intro e; rw [e] at hlen; simp at hlen; omega
  unfold runes_Decode.f
  have h2 : ¬ i < 0 := by omega
  have h3 : ¬ i ≥ (l.length : Int) := by omega
  simp only [h2, h3, if_false, decide_false]
  obtain ⟨r, hr⟩ : ∃ r, r = l.drop i.toNat := ⟨_, rfl⟩
  rw [← hr] at hd hne hlen ⊢
  have hp : 0 < (r.length : Int) := by omega
  have hstep : ∀ k, runes_Decode.j0 (k + 1) l i false = (runes_form.f k (rd r 0)).bind fun q => if q.1 = 0 then some (0, 0, 10) else runes_Decode.l0 k (wrap64 (Go.bits .and .u8 (rd r 0) q.2.1)) q.1 r q.2.2.1 q.2.2.2 1 := by
    intro k
    simp only [runes_Decode.j0, Bool.false_eq_true, if_false]
    rw [if_pos h0, if_pos (by omega), ← hr, if_pos hp]
  refine Ev.step hstep (Ev.bind (form_eq (rd r 0)) ?_)
  by_cases hz : (form (rd r 0)).1 = 0
  · simp only [hz, if_true]
    rw [form_zero r hne hz]
    exact Ev.now _
  · simp only [hz, if_false]
    exact loop_eq r hne hd hz

/-! Bytes against bytes. -/
theorem drop_cons {l : List Int} {n : Nat} (h : n < l.length) : l.drop n = l.getD n 0 :: l.drop (n + 1) := by
  rw [List.drop_eq_getElem_cons h]
  simp [List.getD, h]
theorem eqBytes_l0 (a b : List Int) (hl : a.length = b.length) (hs : a.length ≤ 1000000000000000) (d : Nat) : ∀ i : Nat, i + d = a.length →
    Ev (fun k => colophonref00_EqBytes.l0 k a b (i : Int)) (decide (a.drop i = b.drop i)) := by
  induction d with
  | zero =>
    intro i hi
    refine Ev.step (f := fun _ => some true) (fun k => ?_) ?_
    · simp only [colophonref00_EqBytes.l0]; rw [if_neg (by omega)]
    · rw [List.drop_of_length_le (by omega), List.drop_of_length_le (by omega)]; simp; exact Ev.now _
  | succ d ih =>
    intro i hi
    have ha : i < a.length := by omega
    have hb : i < b.length := by omega
    rw [drop_cons ha, drop_cons hb]
    have w1 : wrap64 ((i : Int) + 1) = ((i + 1 : Nat) : Int) := by unfold wrap64; omega
    by_cases e : a.getD i 0 = b.getD i 0
    · refine Ev.step (f := fun k => colophonref00_EqBytes.l0 k a b ((i + 1 : Nat) : Int)) (fun k => ?_) ?_
      · simp only [colophonref00_EqBytes.l0]
        rw [if_pos (by omega), if_pos (by omega), if_pos (by omega), if_pos (by simpa [rd] using e), w1]
      · have := ih (i + 1) (by omega)
        rw [e]
        simpa using this
    · refine Ev.step (f := fun _ => some false) (fun k => ?_) ?_
      · simp only [colophonref00_EqBytes.l0]
        rw [if_pos (by omega), if_pos (by omega), if_pos (by omega), if_neg (by simpa [rd] using e)]
      · have : ¬ (a.getD i 0 :: a.drop (i + 1) = b.getD i 0 :: b.drop (i + 1)) := by intro h; injection h; contradiction
        rw [decide_eq_false this]; exact Ev.now _
theorem eqBytes (a b : List Int) (hs : a.length ≤ 1000000000000000) : Ev (fun k => colophonref00_EqBytes.f k a b) (decide (a = b)) := by
  unfold colophonref00_EqBytes.f
  by_cases hl : (a.length : Int) = (b.length : Int)
  · simp only [hl, if_true]
    have := eqBytes_l0 a b (by omega) hs a.length 0 (by omega)
    simpa using this
  · simp only [hl, if_false]
    have : ¬ a = b := by intro e; rw [e] at hl; exact hl rfl
    rw [decide_eq_false this]; exact Ev.now _
theorem eqBytes_self (a : List Int) (hs : a.length ≤ 1000000000000000) : Ev (fun k => colophonref00_EqBytes.f k a a) true := by
  have := eqBytes a a hs
  simpa using this

theorem copy_eq (l : List Int) (h : l.length ≤ 140737488351232) : colophonref00_CopyBytes.f l = some l := by
  unfold colophonref00_CopyBytes.f
  rw [if_pos (by simp; omega)]; simp

theorem wf64 {a : Int} (h : (Lit.int .i64 a).wf = true) : -9223372036854775808 ≤ a ∧ a ≤ 9223372036854775807 := by
  simpa [Lit.wf, IntKind.min, IntKind.max, IntKind.signed, IntKind.bits] using h
theorem wf8 {a : Int} (h : (Lit.int .u8 a).wf = true) : 0 ≤ a ∧ a ≤ 255 := by
  simpa [Lit.wf, IntKind.min, IntKind.max, IntKind.signed, IntKind.bits] using h
theorem bytes_of {l : List Int} (h : ∀ x ∈ l, (Lit.int .u8 x).wf = true) : isBytes l := fun x hx => wf8 (h x hx)

/-! The document's Encode. -/
theorem tdiv_nn {a : Int} (h : 0 ≤ a) (n : Int) : Int.tdiv a n = a / n := Int.tdiv_eq_ediv_of_nonneg h
theorem tmod_nn {a : Int} (h : 0 ≤ a) (n : Int) : Int.tmod a n = a % n := Int.tmod_eq_emod_of_nonneg h
theorem refIs {c : Int} : colophonref01_Is.f c = some (decide (isCh c)) := by
  unfold colophonref01_Is.f
  by_cases h1 : c ≥ 0
  · by_cases h2 : c ≤ 1114111
    · by_cases h3 : c ≥ 55296
      · simp only [h1, h2, h3, if_true]
        by_cases h4 : c ≤ 57343
        · rw [decide_eq_true h4, decide_eq_false (show ¬ isCh c by unfold isCh; omega)]; rfl
        · rw [decide_eq_false h4, decide_eq_true (show isCh c by unfold isCh; omega)]; rfl
      · simp only [h1, h2, h3, if_true, if_false]
        rw [decide_eq_true (show isCh c by unfold isCh; omega)]; rfl
    · simp only [h1, h2, if_true, if_false]
      rw [decide_eq_false (show ¬ isCh c by unfold isCh; omega)]
  · simp only [h1, if_false]
    rw [decide_eq_false (show ¬ isCh c by unfold isCh; omega)]
theorem refEncode (c : Int) (_hw : -9223372036854775808 ≤ c ∧ c ≤ 9223372036854775807) : colophonref01_Encode.f c = runes_Encode.f c := by
  unfold colophonref01_Encode.f
  rw [refIs]
  simp only [Option.bind_some]
  by_cases h : isCh c
  · rw [encode_ch h, decide_eq_true h, if_pos rfl]
    unfold isCh at h
    have w : ∀ x : Int, 0 ≤ x → x ≤ 2000000 → wrap64 x = x := fun x h0 h1 => by unfold wrap64; omega
    have m : ∀ x : Int, 0 ≤ x → x < 256 → x % 256 = x := fun x h0 h1 => by omega
    simp only [tdiv_nn h.1, tmod_nn h.1]
    rcases enc_cases c with ⟨b, e⟩ | ⟨b0, b, e⟩ | ⟨b0, b, e⟩ | ⟨b, e⟩ <;> rw [e]
    · rw [if_pos b, m c (by omega) (by omega)]
    · rw [if_neg (by omega), if_pos b, w (c / 64) (by omega) (by omega), w _ (by omega) (by omega), w _ (by omega) (by omega), m _ (by omega) (by omega), m _ (by omega) (by omega)]
    · rw [if_neg (by omega), if_neg (by omega), if_pos b, w (c / 4096) (by omega) (by omega), w (c / 64) (by omega) (by omega), tmod_nn (by omega), w _ (by omega) (by omega), w _ (by omega) (by omega), w _ (by omega) (by omega), m _ (by omega) (by omega), m _ (by omega) (by omega), m _ (by omega) (by omega)]
    · rw [if_neg (by omega), if_neg (by omega), if_neg (by omega), w (c / 262144) (by omega) (by omega), w (c / 4096) (by omega) (by omega), w (c / 64) (by omega) (by omega), tmod_nn (by omega), tmod_nn (by omega), w _ (by omega) (by omega), w _ (by omega) (by omega), w _ (by omega) (by omega), w _ (by omega) (by omega), m _ (by omega) (by omega), m _ (by omega) (by omega), m _ (by omega) (by omega), m _ (by omega) (by omega)]
  · rw [encode_no h, decide_eq_false h]; rfl

theorem enc_bytes {c : Int} (h : isCh c) : isBytes (enc c) := by
  unfold isCh at h
  intro x hx
  rcases enc_cases c with ⟨b, e⟩ | ⟨b0, b, e⟩ | ⟨b0, b, e⟩ | ⟨b, e⟩ <;> rw [e] at hx <;> simp at hx
  · omega
  · rcases hx with rfl | rfl <;> omega
  · rcases hx with rfl | rfl | rfl <;> omega
  · rcases hx with rfl | rfl | rfl | rfl <;> omega

/-- What Encode writes is read, whatever stands behind it. -/
theorem dec_enc {c : Int} (h : isCh c) (t : List Int) : dec (enc c ++ t) = (c, ((enc c).length : Int), 0) := by
  unfold isCh at h
  rcases enc_cases c with ⟨b, e⟩ | ⟨b0, b, e⟩ | ⟨b0, b, e⟩ | ⟨b, e⟩ <;> rw [e]
  · simp [dec, b]
  · have h1 : ¬ 192 + c / 64 < 128 := by omega
    have h2 : ¬ 192 + c / 64 < 194 := by omega
    have h3 : 192 + c / 64 < 224 := by omega
    have h4 : ¬ (128 + c % 64 < 128 ∨ 191 < 128 + c % 64) := by omega
    simp only [List.cons_append, List.nil_append, dec, h1, h2, h3, h4, if_true, if_false]
    rw [show (192 + c / 64) % 32 * 64 + (128 + c % 64) % 64 = c by omega]; rfl
  · have h1 : ¬ 224 + c / 4096 < 128 := by omega
    have h2 : ¬ 224 + c / 4096 < 194 := by omega
    have h3 : ¬ 224 + c / 4096 < 224 := by omega
    have h5 : 224 + c / 4096 < 240 := by omega
    have h4 : ¬ (128 + c % 64 < 128 ∨ 191 < 128 + c % 64) := by omega
    have h6 : ¬ (128 + c / 64 % 64 < (if 224 + c / 4096 = 224 then 160 else 128) ∨ (if 224 + c / 4096 = 237 then 159 else 191) < 128 + c / 64 % 64) := by
      split <;> split <;> omega
    simp only [List.cons_append, List.nil_append, dec, h1, h2, h3, h4, h5, h6, if_true, if_false]
    rw [show ((224 + c / 4096) % 16 * 64 + (128 + c / 64 % 64) % 64) * 64 + (128 + c % 64) % 64 = c by omega]; rfl
  · have h1 : ¬ 240 + c / 262144 < 128 := by omega
    have h2 : ¬ 240 + c / 262144 < 194 := by omega
    have h3 : ¬ 240 + c / 262144 < 224 := by omega
    have h5 : ¬ 240 + c / 262144 < 240 := by omega
    have h7 : 240 + c / 262144 ≤ 244 := by omega
    have h4 : ¬ (128 + c % 64 < 128 ∨ 191 < 128 + c % 64) := by omega
    have h8 : ¬ (128 + c / 64 % 64 < 128 ∨ 191 < 128 + c / 64 % 64) := by omega
    have h6 : ¬ (128 + c / 4096 % 64 < (if 240 + c / 262144 = 240 then 144 else 128) ∨ (if 240 + c / 262144 = 244 then 143 else 191) < 128 + c / 4096 % 64) := by
      split <;> split <;> omega
    simp only [List.cons_append, List.nil_append, dec, h1, h2, h3, h4, h5, h6, h7, h8, if_true, if_false]
    rw [show (((240 + c / 262144) % 8 * 64 + (128 + c / 4096 % 64) % 64) * 64 + (128 + c / 64 % 64) % 64) * 64 + (128 + c % 64) % 64 = c by omega]; rfl

/-- A piece of a character: bytes, not all, at least one. -/
def piece (r : List Int) : Prop := ∃ c t, isCh c ∧ enc c = r ++ t ∧ r ≠ [] ∧ t ≠ []

/-- What may stand at the begin of bytes. -/
inductive Seen (r : List Int) : Int × Int × Int → Prop
  | char (c : Int) (t : List Int) (h : isCh c) (e : r = enc c ++ t) : Seen r (c, ((enc c).length : Int), 0)
  | piece (h : piece r) : Seen r (0, 0, 3)
  | none (h1 : ∀ c t, isCh c → r ≠ enc c ++ t) (h2 : ¬ piece r) : Seen r (0, 0, 10)


theorem dec_piece {r : List Int} (h : piece r) : dec r = (0, 0, 3) := by
  obtain ⟨c, t, hc, he, hr, ht⟩ := h
  unfold isCh at hc
  obtain ⟨b, r, rfl⟩ : ∃ b r', r = b :: r' := by
    cases r with
    | nil => exact absurd rfl hr
    | cons b t => exact ⟨b, t, rfl⟩
  obtain ⟨z, t, rfl⟩ : ∃ b r', t = b :: r' := by
    cases t with
    | nil => exact absurd rfl ht
    | cons b t => exact ⟨b, t, rfl⟩
  rcases enc_cases c with ⟨g, e⟩ | ⟨g0, g, e⟩ | ⟨g0, g, e⟩ | ⟨g, e⟩ <;> rw [e] at he
  · simp at he
  · (rw [List.cons_append, List.cons.injEq] at he); (obtain ⟨rfl, he⟩ := he)
    have h1 : ¬ 192 + c / 64 < 128 := by omega
    have h2 : ¬ 192 + c / 64 < 194 := by omega
    have h3 : 192 + c / 64 < 224 := by omega
    cases r with
    | nil => simp only [dec, h1, h2, h3, if_true, if_false]
    | cons x r => simp at he
  · (rw [List.cons_append, List.cons.injEq] at he); (obtain ⟨rfl, he⟩ := he)
    have h1 : ¬ 224 + c / 4096 < 128 := by omega
    have h2 : ¬ 224 + c / 4096 < 194 := by omega
    have h3 : ¬ 224 + c / 4096 < 224 := by omega
    have h5 : 224 + c / 4096 < 240 := by omega
    have h6 : ¬ (128 + c / 64 % 64 < (if 224 + c / 4096 = 224 then 160 else 128) ∨ (if 224 + c / 4096 = 237 then 159 else 191) < 128 + c / 64 % 64) := by
      split <;> split <;> omega
    cases r with
    | nil => simp only [dec, h1, h2, h3, h5, if_true, if_false]
    | cons x r =>
      (rw [List.cons_append, List.cons.injEq] at he); (obtain ⟨rfl, he⟩ := he)
      cases r with
      | nil => simp only [dec, h1, h2, h3, h5, h6, if_true, if_false]
      | cons x r => simp at he
  · (rw [List.cons_append, List.cons.injEq] at he); (obtain ⟨rfl, he⟩ := he)
    have h1 : ¬ 240 + c / 262144 < 128 := by omega
    have h2 : ¬ 240 + c / 262144 < 194 := by omega
    have h3 : ¬ 240 + c / 262144 < 224 := by omega
    have h5 : ¬ 240 + c / 262144 < 240 := by omega
    have h7 : 240 + c / 262144 ≤ 244 := by omega
    have h8 : ¬ (128 + c / 64 % 64 < 128 ∨ 191 < 128 + c / 64 % 64) := by omega
    have h6 : ¬ (128 + c / 4096 % 64 < (if 240 + c / 262144 = 240 then 144 else 128) ∨ (if 240 + c / 262144 = 244 then 143 else 191) < 128 + c / 4096 % 64) := by
      split <;> split <;> omega
    cases r with
    | nil => simp only [dec, h1, h2, h3, h5, h7, if_true, if_false]
    | cons x r =>
      (rw [List.cons_append, List.cons.injEq] at he); (obtain ⟨rfl, he⟩ := he)
      cases r with
      | nil => simp only [dec, h1, h2, h3, h5, h6, h7, if_true, if_false]
      | cons x r =>
        (rw [List.cons_append, List.cons.injEq] at he); (obtain ⟨rfl, he⟩ := he)
        cases r with
        | nil => simp only [dec, h1, h2, h3, h5, h6, h7, h8, if_true, if_false]
        | cons x r => simp at he

theorem seen_none {r : List Int} (h : dec r = (0, 0, 10)) : Seen r (0, 0, 10) := by
  refine .none (fun c t hc e => ?_) (fun hp => ?_)
  · rw [e, dec_enc hc] at h; simp at h
  · rw [dec_piece hp] at h; simp at h
theorem seen_piece {r t : List Int} {c : Int} (hr : r ≠ []) (hc : isCh c) (e : enc c = r ++ t) (ht : t ≠ []) : Seen r (dec r) := by
  have hp : piece r := ⟨c, t, hc, e, hr, ht⟩
  rw [dec_piece hp]; exact .piece hp
theorem seen_char {r t : List Int} {c : Int} (hc : isCh c) (e : r = enc c ++ t) : Seen r (dec r) := by
  rw [e, dec_enc hc]; exact .char c t hc rfl

theorem dec_seen (r : List Int) (hr : r ≠ []) (hb : isBytes r) : Seen r (dec r) := by
  obtain ⟨b, t, rfl⟩ : ∃ b t, r = b :: t := by
    cases r with
    | nil => exact absurd rfl hr
    | cons b t => exact ⟨b, t, rfl⟩
  have hbb := hb b (by simp)
  by_cases h1 : b < 128
  · exact seen_char (c := b) (t := t) (by unfold isCh; omega) (by rw [enc1 h1]; rfl)
  · by_cases h2 : b < 194
    · have e : dec (b :: t) = (0, 0, 10) := by simp only [dec, h1, h2, if_true, if_false]
      rw [e]; exact seen_none e
    · by_cases h3 : b < 224
      · cases t with
        | nil => exact seen_piece (c := (b % 32) * 64) (t := [128]) (by simp) (by unfold isCh; omega) (by rw [enc2 (by omega) (by omega)]; simp; omega) (by simp)
        | cons x t =>
          have hxb := hb x (by simp)
          by_cases hx : x < 128 ∨ 191 < x
          · have e : dec (b :: x :: t) = (0, 0, 10) := by simp only [dec, h1, h2, h3, hx, if_true, if_false]
            rw [e]; exact seen_none e
          · exact seen_char (c := (b % 32) * 64 + x % 64) (t := t) (by unfold isCh; omega) (by rw [enc2 (by omega) (by omega)]; simp; omega)
      · by_cases h4 : b < 240
        · obtain ⟨lo, hlo⟩ : ∃ lo, lo = (if b = 224 then (160 : Int) else 128) := ⟨_, rfl⟩
          obtain ⟨hi, hhi⟩ : ∃ hi, hi = (if b = 237 then (159 : Int) else 191) := ⟨_, rfl⟩
          have L : 128 ≤ lo ∧ (b = 224 → lo = 160) ∧ lo ≤ 160 ∧ (b ≠ 224 → lo = 128) := by rw [hlo]; split <;> omega
          have H : hi ≤ 191 ∧ (b = 237 → hi = 159) ∧ 159 ≤ hi := by rw [hhi]; split <;> omega
          cases t with
          | nil => exact seen_piece (c := (b % 16) * 4096 + (lo - 128) * 64) (t := [lo, 128]) (by simp) (by unfold isCh; omega) (by rw [enc3 (by omega) (by omega)]; simp; omega) (by simp)
          | cons x t =>
            have hxb := hb x (by simp)
            by_cases hx : x < lo ∨ hi < x
            · have e : dec (b :: x :: t) = (0, 0, 10) := by simp only [dec, h1, h2, h3, h4, ← hlo, ← hhi, hx, if_true, if_false]
              rw [e]; exact seen_none e
            · cases t with
              | nil => exact seen_piece (c := (b % 16) * 4096 + (x % 64) * 64) (t := [128]) (by simp) (by unfold isCh; omega) (by rw [enc3 (by omega) (by omega)]; simp; omega) (by simp)
              | cons y t =>
                have hyb := hb y (by simp)
                by_cases hy : y < 128 ∨ 191 < y
                · have e : dec (b :: x :: y :: t) = (0, 0, 10) := by simp only [dec, h1, h2, h3, h4, ← hlo, ← hhi, hx, hy, if_true, if_false]
                  rw [e]; exact seen_none e
                · exact seen_char (c := (b % 16) * 4096 + (x % 64) * 64 + y % 64) (t := t) (by unfold isCh; omega) (by rw [enc3 (by omega) (by omega)]; simp; omega)
        · by_cases h5 : b ≤ 244
          · obtain ⟨lo, hlo⟩ : ∃ lo, lo = (if b = 240 then (144 : Int) else 128) := ⟨_, rfl⟩
            obtain ⟨hi, hhi⟩ : ∃ hi, hi = (if b = 244 then (143 : Int) else 191) := ⟨_, rfl⟩
            have L : 128 ≤ lo ∧ (b = 240 → lo = 144) ∧ lo ≤ 144 ∧ (b ≠ 240 → lo = 128) := by rw [hlo]; split <;> omega
            have H : hi ≤ 191 ∧ (b = 244 → hi = 143) ∧ 143 ≤ hi := by rw [hhi]; split <;> omega
            cases t with
            | nil => exact seen_piece (c := (b % 8) * 262144 + (lo - 128) * 4096) (t := [lo, 128, 128]) (by simp) (by unfold isCh; omega) (by rw [enc4 (by omega)]; simp; omega) (by simp)
            | cons x t =>
              have hxb := hb x (by simp)
              by_cases hx : x < lo ∨ hi < x
              · have e : dec (b :: x :: t) = (0, 0, 10) := by simp only [dec, h1, h2, h3, h4, h5, ← hlo, ← hhi, hx, if_true, if_false]
                rw [e]; exact seen_none e
              · cases t with
                | nil => exact seen_piece (c := (b % 8) * 262144 + (x % 64) * 4096) (t := [128, 128]) (by simp) (by unfold isCh; omega) (by rw [enc4 (by omega)]; simp; omega) (by simp)
                | cons y t =>
                  have hyb := hb y (by simp)
                  by_cases hy : y < 128 ∨ 191 < y
                  · have e : dec (b :: x :: y :: t) = (0, 0, 10) := by simp only [dec, h1, h2, h3, h4, h5, ← hlo, ← hhi, hx, hy, if_true, if_false]
                    rw [e]; exact seen_none e
                  · cases t with
                    | nil => exact seen_piece (c := (b % 8) * 262144 + (x % 64) * 4096 + (y % 64) * 64) (t := [128]) (by simp) (by unfold isCh; omega) (by rw [enc4 (by omega)]; simp; omega) (by simp)
                    | cons z t =>
                      have hzb := hb z (by simp)
                      by_cases hz : z < 128 ∨ 191 < z
                      · have e : dec (b :: x :: y :: z :: t) = (0, 0, 10) := by simp only [dec, h1, h2, h3, h4, h5, ← hlo, ← hhi, hx, hy, hz, if_true, if_false]
                        rw [e]; exact seen_none e
                      · exact seen_char (c := (b % 8) * 262144 + (x % 64) * 4096 + (y % 64) * 64 + z % 64) (t := t) (by unfold isCh; omega) (by rw [enc4 (by omega)]; simp; omega)
          · have e : dec (b :: t) = (0, 0, 10) := by simp only [dec, h1, h2, h3, h4, h5, if_false]
            rw [e]; exact seen_none e

theorem w64 {x : Int} (h0 : 0 ≤ x) (h1 : x ≤ 1099511627776) : wrap64 x = x := by unfold wrap64; omega

/-! The number that bytes would have. -/
theorem jl0_done {r : List Int} {n c i : Int} (h : ¬ i < n) : Ev (fun k => colophonref01_joined.l0 k r n c i) c :=
  Ev.step (f := fun _ => some c) (fun k => by simp only [colophonref01_joined.l0]; rw [if_neg h]) (Ev.now _)
theorem jl0_next {r : List Int} {n c i R : Int} (h : i < n) (h0 : 0 ≤ i) (h4 : i ≤ 4) (e : i < (r.length : Int)) (hc0 : 0 ≤ c) (hc1 : c ≤ 4294967296) (hx0 : 0 ≤ rd r i) (hx1 : rd r i ≤ 255)
    (H : Ev (fun k => colophonref01_joined.l0 k r n (c * 64 + rd r i % 64) (i + 1)) R) : Ev (fun k => colophonref01_joined.l0 k r n c i) R :=
  Ev.step (f := fun k => colophonref01_joined.l0 k r n (c * 64 + rd r i % 64) (i + 1)) (fun k => by
    simp only [colophonref01_joined.l0]
    rw [if_pos h, if_pos h0, if_pos e, w64 hx0 (by omega), tmod_nn hx0, w64 (x := c * 64) (by omega) (by omega), w64 (x := c * 64 + rd r i % 64) (by omega) (by omega), w64 (x := i + 1) (by omega) (by omega)]) H
/-- What counts of a first byte. -/
def headOf (n b : Int) : Int := if n = 2 then b % 32 else if n = 3 then b % 16 else if n = 4 then b % 8 else b
theorem joined_head {r : List Int} {n R : Int} (hl : 0 < (r.length : Int)) (h0 : 0 ≤ rd r 0) (h1 : rd r 0 ≤ 255)
    (H : Ev (fun k => colophonref01_joined.l0 k r n (headOf n (rd r 0)) 1) R) : Ev (fun k => colophonref01_joined.f k r n) R := by
  unfold colophonref01_joined.f
  unfold headOf at H
  simp only [hl, if_true]
  rw [w64 h0 (by omega), tmod_nn h0]
  have J2 : ∀ x, Ev (fun k => colophonref01_joined.l0 k r n x 1) R → Ev (fun k => colophonref01_joined.j2 k r n x) R := fun x h =>
    Ev.step (f := fun k => colophonref01_joined.l0 k r n x 1) (fun k => by simp only [colophonref01_joined.j2]) h
  by_cases e2 : n = 2
  · rw [if_pos e2] at H
    simp only [if_pos e2]
    refine Ev.step (f := fun k => colophonref01_joined.j1 k r n (rd r 0 % 32)) (fun k => by simp only [colophonref01_joined.j0]; rw [if_neg (by omega)]) ?_
    refine Ev.step (f := fun k => colophonref01_joined.j2 k r n (rd r 0 % 32)) (fun k => by simp only [colophonref01_joined.j1]; rw [if_neg (by omega)]) ?_
    exact J2 _ H
  · rw [if_neg e2] at H
    simp only [if_neg e2]
    by_cases e3 : n = 3
    · rw [if_pos e3] at H
      refine Ev.step (f := fun k => colophonref01_joined.j1 k r n (rd r 0 % 16)) (fun k => by simp only [colophonref01_joined.j0]; rw [if_pos e3, tmod_nn h0]) ?_
      refine Ev.step (f := fun k => colophonref01_joined.j2 k r n (rd r 0 % 16)) (fun k => by simp only [colophonref01_joined.j1]; rw [if_neg (by omega)]) ?_
      exact J2 _ H
    · rw [if_neg e3] at H
      refine Ev.step (f := fun k => colophonref01_joined.j1 k r n (rd r 0)) (fun k => by simp only [colophonref01_joined.j0]; rw [if_neg e3]) ?_
      by_cases e4 : n = 4
      · rw [if_pos e4] at H
        refine Ev.step (f := fun k => colophonref01_joined.j2 k r n (rd r 0 % 8)) (fun k => by simp only [colophonref01_joined.j1]; rw [if_pos e4, tmod_nn h0]) ?_
        exact J2 _ H
      · rw [if_neg e4] at H
        refine Ev.step (f := fun k => colophonref01_joined.j2 k r n (rd r 0)) (fun k => by simp only [colophonref01_joined.j1]; rw [if_neg e4]) ?_
        exact J2 _ H
theorem joined1 {a : Int} {t : List Int} (hb : isBytes (a :: t)) : Ev (fun k => colophonref01_joined.f k (a :: t) 1) a := by
  have h := hb a (by simp)
  exact joined_head (by simp <;> omega) h.1 h.2 (jl0_done (by omega))
theorem joined2 {a b : Int} {t : List Int} (hb : isBytes (a :: b :: t)) : Ev (fun k => colophonref01_joined.f k (a :: b :: t) 2) (a % 32 * 64 + b % 64) := by
  have h := hb a (by simp)
  have h1 := hb b (by simp)
  refine joined_head (by simp; omega) h.1 h.2 ?_
  show Ev (fun k => colophonref01_joined.l0 k (a :: b :: t) 2 (a % 32) 1) _
  exact jl0_next (by omega) (by omega) (by omega) (by simp; omega) (by omega) (by omega) h1.1 h1.2 (jl0_done (by omega))
theorem joined3 {a b c : Int} {t : List Int} (hb : isBytes (a :: b :: c :: t)) : Ev (fun k => colophonref01_joined.f k (a :: b :: c :: t) 3) ((a % 16 * 64 + b % 64) * 64 + c % 64) := by
  have h := hb a (by simp)
  have h1 := hb b (by simp)
  have h2 := hb c (by simp)
  refine joined_head (by simp; omega) h.1 h.2 ?_
  show Ev (fun k => colophonref01_joined.l0 k (a :: b :: c :: t) 3 (a % 16) 1) _
  refine jl0_next (by omega) (by omega) (by omega) (by simp; omega) (by omega) (by omega) h1.1 h1.2 ?_
  rw [rd1]
  exact jl0_next (by omega) (by omega) (by omega) (by simp; omega) (by omega) (by omega) h2.1 h2.2 (jl0_done (by omega))
theorem joined4 {a b c d : Int} {t : List Int} (hb : isBytes (a :: b :: c :: d :: t)) : Ev (fun k => colophonref01_joined.f k (a :: b :: c :: d :: t) 4) (((a % 8 * 64 + b % 64) * 64 + c % 64) * 64 + d % 64) := by
  have h := hb a (by simp)
  have h1 := hb b (by simp)
  have h2 := hb c (by simp)
  have h3 := hb d (by simp)
  refine joined_head (by simp; omega) h.1 h.2 ?_
  show Ev (fun k => colophonref01_joined.l0 k (a :: b :: c :: d :: t) 4 (a % 8) 1) _
  refine jl0_next (by omega) (by omega) (by omega) (by simp; omega) (by omega) (by omega) h1.1 h1.2 ?_
  rw [rd1]
  refine jl0_next (by omega) (by omega) (by omega) (by simp; omega) (by omega) (by omega) h2.1 h2.2 ?_
  show Ev (fun k => colophonref01_joined.l0 k (a :: b :: c :: d :: t) 4 (((a % 8 * 64 + b % 64) * 64 + rd (a :: b :: c :: d :: t) 2 % 64)) 3) _
  rw [rd2]
  exact jl0_next (by omega) (by omega) (by omega) (by simp; omega) (by omega) (by omega) h3.1 h3.2 (jl0_done (by omega))

/-- The number of n bytes. -/
def jn (r : List Int) (n : Nat) : Int :=
  match n, r with
  | 1, a :: _ => a
  | 2, a :: b :: _ => a % 32 * 64 + b % 64
  | 3, a :: b :: c :: _ => (a % 16 * 64 + b % 64) * 64 + c % 64
  | 4, a :: b :: c :: d :: _ => ((a % 8 * 64 + b % 64) * 64 + c % 64) * 64 + d % 64
  | _, _ => 0
theorem joined_jn {r : List Int} {n : Nat} (hb : isBytes r) (h1 : 1 ≤ n) (h4 : n ≤ 4) (hl : n ≤ r.length) : Ev (fun k => colophonref01_joined.f k r (n : Int)) (jn r n) := by
  obtain rfl | rfl | rfl | rfl : n = 1 ∨ n = 2 ∨ n = 3 ∨ n = 4 := by omega
  · match r, hl with
    | a :: t, _ => exact joined1 hb
  · match r, hl with
    | a :: b :: t, _ => exact joined2 hb
  · match r, hl with
    | a :: b :: c :: t, _ => exact joined3 hb
  · match r, hl with
    | a :: b :: c :: d :: t, _ => exact joined4 hb
theorem jn_range {r : List Int} {n : Nat} (hb : isBytes r) : 0 ≤ jn r n ∧ jn r n ≤ 2097151 := by
  unfold jn
  split
  · next a t => have := hb a (by simp); omega
  · next a b t => omega
  · next a b c t => omega
  · next a b c d t => omega
  · omega
theorem jn_enc {c : Int} (h : isCh c) (t : List Int) : jn (enc c ++ t) (enc c).length = c := by
  unfold isCh at h
  rcases enc_cases c with ⟨b, e⟩ | ⟨b0, b, e⟩ | ⟨b0, b, e⟩ | ⟨b, e⟩ <;> rw [e] <;> simp only [List.cons_append, List.nil_append, List.length_cons, List.length_nil, jn] <;> omega

/-! Are bytes the begin of a character? -/
/-- A candidate that fits. -/
def fits (r : List Int) (n lo hi c : Int) : Prop := isCh c ∧ lo ≤ c ∧ c ≤ hi ∧ ((enc c).length : Int) = n ∧ (enc c).take r.length = r
def least (n : Int) : Int := rd [0, 0, 128, 2048, 65536] n
def cands (n lo hi : Int) : List Int := [mx lo (least n), 57344, hi, lo]

theorem l2_hit {r : List Int} {n lo hi i : Int} (hn0 : 0 ≤ n) (hn : n ≤ 4) (hr : (r.length : Int) ≤ n) (h0 : 0 ≤ i) (h4 : i < 4) (hf : fits r n lo hi (rd (cands n lo hi) i)) :
    Ev (fun k => colophonref01_begins.l2 k r n lo hi i) true := by
  obtain ⟨hc, hlo, hhi, hl, ht⟩ := hf
  refine Ev.step (f := fun k => (colophonref00_EqBytes.f k ((enc (rd (cands n lo hi) i)).take ((r.length : Int)).toNat) r).bind fun t => if t = true then some true else colophonref01_begins.l2 k r n lo hi (wrap64 (i + 1))) (fun k => ?_) ?_
  · simp only [colophonref01_begins.l2]
    rw [if_pos h4]
    simp only [Option.bind_some]
    rw [if_pos hn0, if_pos (by simp; omega)]
    have e1 : ([mx lo (rd [0, 0, 128, 2048, 65536] n), 57344, hi, lo] : List Int) = cands n lo hi := rfl
    rw [e1, if_pos h0, if_pos (by simp [cands]; omega), refEncode _ (by unfold isCh at hc; omega), encode_ch hc]
    simp only [Option.bind_some, if_true]
    rw [if_pos hlo, if_pos hhi, if_pos hl, if_pos (by omega), if_pos (by omega)]
  · have e : (enc (rd (cands n lo hi) i)).take ((r.length : Int)).toNat = r := by simpa using ht
    simp only [e]
    exact Ev.bind (eqBytes_self r (by omega)) (Ev.now _)
theorem l2_miss {r : List Int} {n lo hi i : Int} {R : Bool} (hn0 : 0 ≤ n) (hn : n ≤ 4) (hr : (r.length : Int) ≤ n) (h0 : 0 ≤ i) (h4 : i < 4) (hlo0 : 0 ≤ lo) (hhi0 : hi ≤ 2097151) (hlh : lo ≤ hi)
    (hf : ¬ fits r n lo hi (rd (cands n lo hi) i)) (H : Ev (fun k => colophonref01_begins.l2 k r n lo hi (i + 1)) R) :
    Ev (fun k => colophonref01_begins.l2 k r n lo hi i) R := by
  have e1 : ([mx lo (rd [0, 0, 128, 2048, 65536] n), 57344, hi, lo] : List Int) = cands n lo hi := rfl
  have hrange : -9223372036854775808 ≤ rd (cands n lo hi) i ∧ rd (cands n lo hi) i ≤ 9223372036854775807 := by
    have hle : 0 ≤ least n ∧ least n ≤ 65536 := by
      obtain rfl | rfl | rfl | rfl | rfl : n = 0 ∨ n = 1 ∨ n = 2 ∨ n = 3 ∨ n = 4 := by omega
      all_goals decide
    obtain rfl | rfl | rfl | rfl : i = 0 ∨ i = 1 ∨ i = 2 ∨ i = 3 := by omega
    · show _ ≤ mx lo (least n) ∧ mx lo (least n) ≤ _
      unfold mx; split <;> omega
    · show _ ≤ (57344 : Int) ∧ (57344 : Int) ≤ _; omega
    · show _ ≤ hi ∧ hi ≤ _; omega
    · show _ ≤ lo ∧ lo ≤ _; omega
  have head : ∀ k, colophonref01_begins.l2 (k + 1) r n lo hi i = (runes_Encode.f (rd (cands n lo hi) i)).bind fun bt199 => (if bt199.2 = 0 then (if rd (cands n lo hi) i ≥ lo then (if rd (cands n lo hi) i ≤ hi then (if (bt199.1.length : Int) = n then (if 0 ≤ (r.length : Int) then (if (r.length : Int) ≤ (bt199.1.length : Int) then ((colophonref00_EqBytes.f k (bt199.1.take ((r.length : Int) : Int).toNat) r).bind fun t207 => (if t207 = true then (some true) else (colophonref01_begins.l2 k r n lo hi (i + 1)))) else (none)) else (none)) else (colophonref01_begins.l2 k r n lo hi (i + 1))) else (colophonref01_begins.l2 k r n lo hi (i + 1))) else (colophonref01_begins.l2 k r n lo hi (i + 1))) else (colophonref01_begins.l2 k r n lo hi (i + 1))) := by
    intro k
    simp only [colophonref01_begins.l2]
    rw [if_pos h4]
    simp only [Option.bind_some]
    rw [if_pos hn0, if_pos (by simp; omega), e1, if_pos h0, if_pos (by simp [cands]; omega), refEncode _ hrange, w64 (x := i + 1) (by omega) (by omega)]
  refine Ev.step head ?_
  by_cases hc : isCh (rd (cands n lo hi) i)
  · rw [encode_ch hc]
    simp only [Option.bind_some, if_true]
    by_cases a1 : rd (cands n lo hi) i ≥ lo
    · simp only [a1, if_true]
      by_cases a2 : rd (cands n lo hi) i ≤ hi
      · simp only [a2, if_true]
        by_cases a3 : ((enc (rd (cands n lo hi) i)).length : Int) = n
        · simp only [a3, if_true]
          have z0 : 0 ≤ (r.length : Int) := by omega
          simp only [z0, hr, if_true]
          have ne : ¬ (enc (rd (cands n lo hi) i)).take ((r.length : Int)).toNat = r := fun e => hf ⟨hc, a1, a2, a3, by simpa using e⟩
          have := eqBytes ((enc (rd (cands n lo hi) i)).take ((r.length : Int)).toNat) r (by have := (enc_pos (rd (cands n lo hi) i)).2; simp; omega)
          rw [decide_eq_false ne] at this
          refine Ev.bind this ?_
          simp only [Bool.false_eq_true, if_false]
          exact H
        · simp only [a3, if_false]; exact H
      · simp only [a2, if_false]; exact H
    · simp only [a1, if_false]; exact H
  · rw [encode_no hc]
    simp only [Option.bind_some]
    exact H
theorem l2_end {r : List Int} {n lo hi : Int} {R : Bool} (hn0 : 0 ≤ n) (hn : n ≤ 4) (H : Ev (fun k => colophonref01_begins.l0 k r (n + 1)) R) : Ev (fun k => colophonref01_begins.l2 k r n lo hi 4) R :=
  Ev.step (f := fun k => colophonref01_begins.l0 k r (n + 1)) (fun k => by simp only [colophonref01_begins.l2]; rw [if_neg (by omega), w64 (x := n + 1) (by omega) (by omega)]) H
theorem l2_yes {r : List Int} {n lo hi : Int} (hn0 : 0 ≤ n) (hn : n ≤ 4) (hr : (r.length : Int) ≤ n) (hlo0 : 0 ≤ lo) (hhi0 : hi ≤ 2097151) (hlh : lo ≤ hi) (h : ∃ c ∈ cands n lo hi, fits r n lo hi c) :
    Ev (fun k => colophonref01_begins.l2 k r n lo hi 0) true := by
  by_cases h0 : fits r n lo hi (rd (cands n lo hi) 0)
  · exact l2_hit hn0 hn hr (by omega) (by omega) h0
  refine l2_miss hn0 hn hr (by omega) (by omega) hlo0 hhi0 hlh h0 ?_
  by_cases h1 : fits r n lo hi (rd (cands n lo hi) (0 + 1))
  · exact l2_hit hn0 hn hr (by omega) (by omega) h1
  refine l2_miss hn0 hn hr (by omega) (by omega) hlo0 hhi0 hlh h1 ?_
  by_cases h2 : fits r n lo hi (rd (cands n lo hi) (0 + 1 + 1))
  · exact l2_hit hn0 hn hr (by omega) (by omega) h2
  refine l2_miss hn0 hn hr (by omega) (by omega) hlo0 hhi0 hlh h2 ?_
  by_cases h3 : fits r n lo hi (rd (cands n lo hi) (0 + 1 + 1 + 1))
  · exact l2_hit hn0 hn hr (by omega) (by omega) h3
  obtain ⟨c, hc, hf⟩ := h
  simp only [cands, List.mem_cons, List.not_mem_nil, or_false] at hc
  rcases hc with rfl | rfl | rfl | rfl
  · exact absurd hf h0
  · exact absurd hf h1
  · exact absurd hf h2
  · exact absurd hf h3
theorem l2_no {r : List Int} {n lo hi : Int} {R : Bool} (hn0 : 0 ≤ n) (hn : n ≤ 4) (hr : (r.length : Int) ≤ n) (hlo0 : 0 ≤ lo) (hhi0 : hi ≤ 2097151) (hlh : lo ≤ hi) (h : ¬ ∃ c ∈ cands n lo hi, fits r n lo hi c)
    (H : Ev (fun k => colophonref01_begins.l0 k r (n + 1)) R) : Ev (fun k => colophonref01_begins.l2 k r n lo hi 0) R := by
  have g : ∀ c ∈ cands n lo hi, ¬ fits r n lo hi c := fun c hc hf => h ⟨c, hc, hf⟩
  refine l2_miss hn0 hn hr (by omega) (by omega) hlo0 hhi0 hlh (g _ (by simp [cands, rd])) ?_
  refine l2_miss hn0 hn hr (by omega) (by omega) hlo0 hhi0 hlh (g _ (by simp [cands, rd])) ?_
  refine l2_miss hn0 hn hr (by omega) (by omega) hlo0 hhi0 hlh (g _ (by simp [cands, rd])) ?_
  refine l2_miss hn0 hn hr (by omega) (by omega) hlo0 hhi0 hlh (g _ (by simp [cands, rd])) ?_
  exact l2_end hn0 hn H

/-! The rows of the least and the greatest bytes. -/
theorem l1_push {r x y : List Int} {n : Int} {R : Bool} (h : (x.length : Int) < n) (hn : n ≤ 4) (hxy : x.length = y.length) (H : Ev (fun k => colophonref01_begins.l1 k r n (x ++ [128]) (y ++ [191])) R) : Ev (fun k => colophonref01_begins.l1 k r n x y) R :=
  Ev.step (f := fun k => colophonref01_begins.l1 k r n (x ++ [128]) (y ++ [191])) (fun k => by simp only [colophonref01_begins.l1]; rw [if_pos h, if_pos (by omega), if_pos (by omega)]) H
theorem l1_go {r x y : List Int} {n lo hi : Int} {R : Bool} (h : (x.length : Int) = n) (hx : Ev (fun k => colophonref01_joined.f k x n) lo) (hy : Ev (fun k => colophonref01_joined.f k y n) hi)
    (H : Ev (fun k => colophonref01_begins.l2 k r n lo hi 0) R) : Ev (fun k => colophonref01_begins.l1 k r n x y) R :=
  Ev.step (f := fun k => (colophonref01_joined.f k x n).bind fun a => (colophonref01_joined.f k y n).bind fun b => colophonref01_begins.l2 k r n a b 0) (fun k => by simp only [colophonref01_begins.l1]; rw [if_neg (by omega)]) (Ev.bind hx (Ev.bind hy H))
theorem b0_go {r : List Int} {n : Int} {R : Bool} (hn : n ≤ 4) (hr : r.length ≤ 4) (H : Ev (fun k => colophonref01_begins.l1 k r n r r) R) : Ev (fun k => colophonref01_begins.l0 k r n) R :=
  Ev.step (f := fun k => colophonref01_begins.l1 k r n r r) (fun k => by
    simp only [colophonref01_begins.l0]
    rw [if_pos hn]
    simp only [Option.bind_some]
    rw [if_pos (by simp; omega), if_pos (by simp; omega)]; simp) H
theorem b0_end {r : List Int} : Ev (fun k => colophonref01_begins.l0 k r 5) false :=
  Ev.step (f := fun _ => some false) (fun k => by simp only [colophonref01_begins.l0]; rw [if_neg (by omega)]) (Ev.now _)

/-- A length of which bytes may be the begin. -/
def lev (r : List Int) (n : Int) : Prop := ∃ c, isCh c ∧ ((enc c).length : Int) = n ∧ (enc c).take r.length = r

theorem enc_len {c : Int} (_h : isCh c) : ((enc c).length = 1 ∧ c < 128) ∨ ((enc c).length = 2 ∧ 128 ≤ c ∧ c < 2048) ∨ ((enc c).length = 3 ∧ 2048 ≤ c ∧ c < 65536) ∨ ((enc c).length = 4 ∧ 65536 ≤ c) := by
  rcases enc_cases c with ⟨b, e⟩ | ⟨b0, b, e⟩ | ⟨b0, b, e⟩ | ⟨b, e⟩ <;> rw [e] <;> simp <;> omega
/-- Where the numbers between two of n bytes are those of which the bytes are the begin. -/
theorem cand_of {r : List Int} {n lo hi : Int} (hn0 : 2 ≤ n) (hn : n ≤ 4)
    (hin : ∀ c, isCh c → ((enc c).length : Int) = n → (enc c).take r.length = r → lo ≤ c ∧ c ≤ hi)
    (hto : ∀ c c', isCh c → ((enc c).length : Int) = n → (enc c).take r.length = r → isCh c' → ((enc c').length : Int) = n → lo ≤ c' → c' ≤ hi → (enc c').take r.length = r) :
    (∃ c ∈ cands n lo hi, fits r n lo hi c) ↔ lev r n := by
  constructor
  · rintro ⟨c, _, h1, _, _, h4, h5⟩
    exact ⟨c, h1, h4, h5⟩
  · rintro ⟨c, h1, h2, h3⟩
    obtain ⟨g1, g2⟩ := hin c h1 h2 h3
    have hl := enc_len h1
    have hc1 := h1
    unfold isCh at hc1
    obtain ⟨m, hm⟩ : ∃ m, m = mx lo (least n) := ⟨_, rfl⟩
    have hleast : (n = 2 → least n = 128) ∧ (n = 3 → least n = 2048) ∧ (n = 4 → least n = 65536) := by
      refine ⟨?_, ?_, ?_⟩ <;> (intro e; subst e; rfl)
    have hm1 : lo ≤ m ∧ least n ≤ m ∧ (m = lo ∨ m = least n) := by
      rw [hm]; unfold mx; split <;> omega
    have hmc : m ≤ c := by omega
    by_cases hmch : isCh m
    · have hlm := enc_len hmch
      have hln : ((enc m).length : Int) = n := by omega
      exact ⟨m, by simp [cands, hm], hmch, hm1.1, by omega, hln, hto c m h1 h2 h3 hmch hln hm1.1 (by omega)⟩
    · have hs : 55296 ≤ m ∧ m ≤ 57343 := by unfold isCh at hmch; omega
      have h57 : isCh 57344 := by unfold isCh; omega
      have hl57 : (enc 57344).length = 3 := by decide
      have hn3 : n = 3 := by omega
      exact ⟨57344, by simp [cands], h57, by omega, by omega, by omega, hto c 57344 h1 h2 h3 h57 (by omega) (by omega) (by omega)⟩

theorem enc_of2 {c : Int} (h : isCh c) (e : ((enc c).length : Int) = 2) : 128 ≤ c ∧ c < 2048 ∧ enc c = [192 + c / 64, 128 + c % 64] := by
  have := enc_len h
  exact ⟨by omega, by omega, enc2 (by omega) (by omega)⟩
theorem enc_of3 {c : Int} (h : isCh c) (e : ((enc c).length : Int) = 3) : 2048 ≤ c ∧ c < 65536 ∧ enc c = [224 + c / 4096, 128 + c / 64 % 64, 128 + c % 64] := by
  have := enc_len h
  exact ⟨by omega, by omega, enc3 (by omega) (by omega)⟩
theorem enc_of4 {c : Int} (h : isCh c) (e : ((enc c).length : Int) = 4) : 65536 ≤ c ∧ c ≤ 1114111 ∧ enc c = [240 + c / 262144, 128 + c / 4096 % 64, 128 + c / 64 % 64, 128 + c % 64] := by
  have := enc_len h
  have h' := h
  unfold isCh at h'
  exact ⟨by omega, by omega, enc4 (by omega)⟩

theorem one_level {r x y : List Int} {n lo hi : Int} {R : Bool} (hn0 : 2 ≤ n) (hn : n ≤ 4) (hr : (r.length : Int) < n)
    (hb : 0 ≤ lo ∧ hi ≤ 2097151 ∧ lo ≤ hi)
    (hin : ∀ c, isCh c → ((enc c).length : Int) = n → (enc c).take r.length = r → lo ≤ c ∧ c ≤ hi)
    (hto : ∀ c c', isCh c → ((enc c).length : Int) = n → (enc c).take r.length = r → isCh c' → ((enc c').length : Int) = n → lo ≤ c' → c' ≤ hi → (enc c').take r.length = r)
    (hx : (x.length : Int) = n) (hlo : Ev (fun k => colophonref01_joined.f k x n) lo) (hhi : Ev (fun k => colophonref01_joined.f k y n) hi)
    (hyes : lev r n → R = true) (hno : ¬ lev r n → Ev (fun k => colophonref01_begins.l0 k r (n + 1)) R) :
    Ev (fun k => colophonref01_begins.l1 k r n x y) R := by
  have hc := cand_of hn0 hn hin hto
  refine l1_go hx hlo hhi ?_
  by_cases h : lev r n
  · rw [hyes h]
    exact l2_yes (by omega) hn (by omega) hb.1 hb.2.1 hb.2.2 (hc.mpr h)
  · exact l2_no (by omega) hn (by omega) hb.1 hb.2.1 hb.2.2 (fun g => h (hc.mp g)) (hno h)

theorem begins3 {a b c : Int} (hb : isBytes [a, b, c]) {R : Bool} (hR : R = true ↔ lev [a, b, c] 4) : Ev (fun k => colophonref01_begins.l0 k [a, b, c] 4) R := by
  refine b0_go (by omega) (by simp) ?_
  refine l1_push (by simp) (by omega) rfl ?_
  refine one_level (lo := ((a % 8 * 64 + b % 64) * 64 + c % 64) * 64 + 128 % 64) (hi := ((a % 8 * 64 + b % 64) * 64 + c % 64) * 64 + 191 % 64) (by omega) (by omega) (by simp) (by omega) ?_ ?_ (by simp)
    (joined4 (t := []) (fun x hx => ?_)) (joined4 (t := []) (fun x hx => ?_)) hR.mpr (fun h => ?_)
  · intro z h1 h2 h3
    obtain ⟨g1, g2, e⟩ := enc_of4 h1 h2
    rw [e] at h3
    simp at h3
    omega
  · intro z z' h1 h2 h3 h1' h2' k1 k2
    obtain ⟨g1, g2, e⟩ := enc_of4 h1 h2
    obtain ⟨g1', g2', e'⟩ := enc_of4 h1' h2'
    rw [e] at h3
    rw [e']
    simp at h3 ⊢
    omega
  · simp only [List.mem_cons, List.not_mem_nil, or_false] at hx
    rcases hx with rfl | rfl | rfl | rfl
    · exact hb _ (by simp)
    · exact hb _ (by simp)
    · exact hb _ (by simp)
    · omega
  · simp only [List.mem_cons, List.not_mem_nil, or_false] at hx
    rcases hx with rfl | rfl | rfl | rfl
    · exact hb _ (by simp)
    · exact hb _ (by simp)
    · exact hb _ (by simp)
    · omega
  · have : R = false := by
      cases R with
      | true => exact absurd (hR.mp rfl) h
      | false => rfl
    rw [this]
    exact b0_end

theorem begins2 {a b : Int} (hb : isBytes [a, b]) {R : Bool} (hR : R = true ↔ lev [a, b] 3 ∨ lev [a, b] 4) : Ev (fun k => colophonref01_begins.l0 k [a, b] 3) R := by
  have ba := hb a (by simp)
  have bb := hb b (by simp)
  have bys : ∀ c d : Int, 0 ≤ c → c ≤ 255 → 0 ≤ d → d ≤ 255 → isBytes [a, b, c, d] := by
    intro c d h1 h2 h3 h4 x hx
    simp only [List.mem_cons, List.not_mem_nil, or_false] at hx
    rcases hx with rfl | rfl | rfl | rfl <;> omega
  have bys3 : ∀ c : Int, 0 ≤ c → c ≤ 255 → isBytes [a, b, c] := by
    intro c h1 h2 x hx
    simp only [List.mem_cons, List.not_mem_nil, or_false] at hx
    rcases hx with rfl | rfl | rfl <;> omega
  refine b0_go (by omega) (by simp) ?_
  refine l1_push (by simp) (by omega) rfl ?_
  refine one_level (lo := (a % 16 * 64 + b % 64) * 64 + 128 % 64) (hi := (a % 16 * 64 + b % 64) * 64 + 191 % 64) (by omega) (by omega) (by simp) (by omega) ?_ ?_ (by simp)
    (joined3 (t := []) (bys3 _ (by omega) (by omega))) (joined3 (t := []) (bys3 _ (by omega) (by omega))) (fun h => hR.mpr (.inl h)) (fun h => ?_)
  · intro z h1 h2 h3
    obtain ⟨g1, g2, e⟩ := enc_of3 h1 h2
    rw [e] at h3
    simp at h3
    omega
  · intro z z' h1 h2 h3 h1' h2' k1 k2
    obtain ⟨g1, g2, e⟩ := enc_of3 h1 h2
    obtain ⟨g1', g2', e'⟩ := enc_of3 h1' h2'
    rw [e] at h3
    rw [e']
    simp at h3 ⊢
    omega
  · show Ev (fun k => colophonref01_begins.l0 k [a, b] 4) R
    refine b0_go (by omega) (by simp) ?_
    refine l1_push (by simp) (by omega) rfl ?_
    refine l1_push (by simp) (by omega) rfl ?_
    refine one_level (lo := ((a % 8 * 64 + b % 64) * 64 + 128 % 64) * 64 + 128 % 64) (hi := ((a % 8 * 64 + b % 64) * 64 + 191 % 64) * 64 + 191 % 64) (by omega) (by omega) (by simp) (by omega) ?_ ?_ (by simp)
      (joined4 (t := []) (bys _ _ (by omega) (by omega) (by omega) (by omega))) (joined4 (t := []) (bys _ _ (by omega) (by omega) (by omega) (by omega))) (fun h => hR.mpr (.inr h)) (fun h' => ?_)
    · intro z h1 h2 h3
      obtain ⟨g1, g2, e⟩ := enc_of4 h1 h2
      rw [e] at h3
      simp at h3
      omega
    · intro z z' h1 h2 h3 h1' h2' k1 k2
      obtain ⟨g1, g2, e⟩ := enc_of4 h1 h2
      obtain ⟨g1', g2', e'⟩ := enc_of4 h1' h2'
      rw [e] at h3
      rw [e']
      simp at h3 ⊢
      omega
    · have : R = false := by
        cases R with
        | true => rcases hR.mp rfl with g | g <;> contradiction
        | false => rfl
      rw [this]
      exact b0_end

theorem begins1 {a : Int} (hb : isBytes [a]) {R : Bool} (hR : R = true ↔ lev [a] 2 ∨ lev [a] 3 ∨ lev [a] 4) : Ev (fun k => colophonref01_begins.l0 k [a] 2) R := by
  have ba := hb a (by simp)
  have bys : ∀ b c d : Int, 0 ≤ b → b ≤ 255 → 0 ≤ c → c ≤ 255 → 0 ≤ d → d ≤ 255 → isBytes [a, b, c, d] := by
    intro b c d h0 h0' h1 h2 h3 h4 x hx
    simp only [List.mem_cons, List.not_mem_nil, or_false] at hx
    rcases hx with rfl | rfl | rfl | rfl <;> omega
  have bys3 : ∀ b c : Int, 0 ≤ b → b ≤ 255 → 0 ≤ c → c ≤ 255 → isBytes [a, b, c] := by
    intro b c h0 h0' h1 h2 x hx
    simp only [List.mem_cons, List.not_mem_nil, or_false] at hx
    rcases hx with rfl | rfl | rfl <;> omega
  have bys2 : ∀ b : Int, 0 ≤ b → b ≤ 255 → isBytes [a, b] := by
    intro b h0 h0' x hx
    simp only [List.mem_cons, List.not_mem_nil, or_false] at hx
    rcases hx with rfl | rfl <;> omega
  refine b0_go (by omega) (by simp) ?_
  refine l1_push (by simp) (by omega) rfl ?_
  refine one_level (lo := a % 32 * 64 + 128 % 64) (hi := a % 32 * 64 + 191 % 64) (by omega) (by omega) (by simp) (by omega) ?_ ?_ (by simp)
    (joined2 (t := []) (bys2 _ (by omega) (by omega))) (joined2 (t := []) (bys2 _ (by omega) (by omega))) (fun h => hR.mpr (.inl h)) (fun h => ?_)
  · intro z h1 h2 h3
    obtain ⟨g1, g2, e⟩ := enc_of2 h1 h2
    rw [e] at h3
    simp at h3
    omega
  · intro z z' h1 h2 h3 h1' h2' k1 k2
    obtain ⟨g1, g2, e⟩ := enc_of2 h1 h2
    obtain ⟨g1', g2', e'⟩ := enc_of2 h1' h2'
    rw [e] at h3
    rw [e']
    simp at h3 ⊢
    omega
  show Ev (fun k => colophonref01_begins.l0 k [a] 3) R
  refine b0_go (by omega) (by simp) ?_
  refine l1_push (by simp) (by omega) rfl ?_
  refine l1_push (by simp) (by omega) rfl ?_
  refine one_level (lo := (a % 16 * 64 + 128 % 64) * 64 + 128 % 64) (hi := (a % 16 * 64 + 191 % 64) * 64 + 191 % 64) (by omega) (by omega) (by simp) (by omega) ?_ ?_ (by simp)
    (joined3 (t := []) (bys3 _ _ (by omega) (by omega) (by omega) (by omega))) (joined3 (t := []) (bys3 _ _ (by omega) (by omega) (by omega) (by omega))) (fun h => hR.mpr (.inr (.inl h))) (fun h' => ?_)
  · intro z h1 h2 h3
    obtain ⟨g1, g2, e⟩ := enc_of3 h1 h2
    rw [e] at h3
    simp at h3
    omega
  · intro z z' h1 h2 h3 h1' h2' k1 k2
    obtain ⟨g1, g2, e⟩ := enc_of3 h1 h2
    obtain ⟨g1', g2', e'⟩ := enc_of3 h1' h2'
    rw [e] at h3
    rw [e']
    simp at h3 ⊢
    omega
  show Ev (fun k => colophonref01_begins.l0 k [a] 4) R
  refine b0_go (by omega) (by simp) ?_
  refine l1_push (by simp) (by omega) rfl ?_
  refine l1_push (by simp) (by omega) rfl ?_
  refine l1_push (by simp) (by omega) rfl ?_
  refine one_level (lo := ((a % 8 * 64 + 128 % 64) * 64 + 128 % 64) * 64 + 128 % 64) (hi := ((a % 8 * 64 + 191 % 64) * 64 + 191 % 64) * 64 + 191 % 64) (by omega) (by omega) (by simp) (by omega) ?_ ?_ (by simp)
    (joined4 (t := []) (bys _ _ _ (by omega) (by omega) (by omega) (by omega) (by omega) (by omega))) (joined4 (t := []) (bys _ _ _ (by omega) (by omega) (by omega) (by omega) (by omega) (by omega))) (fun h => hR.mpr (.inr (.inr h))) (fun h'' => ?_)
  · intro z h1 h2 h3
    obtain ⟨g1, g2, e⟩ := enc_of4 h1 h2
    rw [e] at h3
    simp at h3
    omega
  · intro z z' h1 h2 h3 h1' h2' k1 k2
    obtain ⟨g1, g2, e⟩ := enc_of4 h1 h2
    obtain ⟨g1', g2', e'⟩ := enc_of4 h1' h2'
    rw [e] at h3
    rw [e']
    simp at h3 ⊢
    omega
  · have : R = false := by
      cases R with
      | true => rcases hR.mp rfl with g | g | g <;> contradiction
      | false => rfl
    rw [this]
    exact b0_end

theorem piece_lev {r : List Int} (hr : r ≠ []) : piece r ↔ ∃ n : Int, (r.length : Int) < n ∧ n ≤ 4 ∧ lev r n := by
  constructor
  · rintro ⟨c, t, hc, e, _, ht⟩
    have := enc_pos c
    have hl : (enc c).length = r.length + t.length := by rw [e]; simp
    have htl : 0 < t.length := List.length_pos_iff.mpr ht
    exact ⟨((enc c).length : Int), by omega, by omega, c, hc, rfl, by rw [e]; simp⟩
  · rintro ⟨n, h1, _, c, hc, e, ht⟩
    refine ⟨c, (enc c).drop r.length, hc, ?_, hr, ?_⟩
    · conv => lhs; rw [← List.take_append_drop r.length (enc c)]
      rw [ht]
    · intro h
      have : (enc c).length ≤ r.length := List.drop_eq_nil_iff.mp h
      omega

theorem begins_eq {r : List Int} (hr : r ≠ []) (hl : r.length < 4) (hb : isBytes r) : ∃ R : Bool, (R = true ↔ piece r) ∧ Ev (fun k => colophonref01_begins.f k r) R := by
  classical
  refine ⟨decide (piece r), by simp, ?_⟩
  unfold colophonref01_begins.f
  rw [w64 (by omega) (by omega)]
  match r, hr, hl with
  | [a], hr, hl =>
    refine begins1 hb ?_
    rw [decide_eq_true_iff, piece_lev hr]
    constructor
    · rintro ⟨n, h1, h2, h3⟩
      obtain rfl | rfl | rfl : n = 2 ∨ n = 3 ∨ n = 4 := by simp at h1; omega
      · exact .inl h3
      · exact .inr (.inl h3)
      · exact .inr (.inr h3)
    · rintro (h | h | h)
      · exact ⟨2, by simp, by omega, h⟩
      · exact ⟨3, by simp, by omega, h⟩
      · exact ⟨4, by simp, by omega, h⟩
  | [a, b], hr, hl =>
    refine begins2 hb ?_
    rw [decide_eq_true_iff, piece_lev hr]
    constructor
    · rintro ⟨n, h1, h2, h3⟩
      obtain rfl | rfl : n = 3 ∨ n = 4 := by simp at h1; omega
      · exact .inl h3
      · exact .inr h3
    · rintro (h | h)
      · exact ⟨3, by simp, by omega, h⟩
      · exact ⟨4, by simp, by omega, h⟩
  | [a, b, c], hr, hl =>
    refine begins3 hb ?_
    rw [decide_eq_true_iff, piece_lev hr]
    constructor
    · rintro ⟨n, h1, h2, h3⟩
      obtain rfl : n = 4 := by simp at h1; omega
      exact h3
    · intro h
      exact ⟨4, by simp, by omega, h⟩

/-! The document's Decode. -/
theorem seen_dec {r : List Int} {x : Int × Int × Int} (hr : r ≠ []) (hb : isBytes r) (h : Seen r x) : x = dec r := by
  cases h with
  | char c t hc e => rw [e, dec_enc hc]
  | piece hp => rw [dec_piece hp]
  | none h1 h2 =>
    have := dec_seen r hr hb
    generalize dec r = d at this
    cases this with
    | char c t hc e => exact absurd e (h1 c t hc)
    | piece hp => exact absurd hp h2
    | none _ _ => rfl
def hit (r : List Int) (n : Nat) : Prop := isCh (jn r n) ∧ enc (jn r n) = r.take n

theorem rl0_head {r : List Int} {n : Nat} (h4 : n ≤ 4) (hl : n ≤ r.length) (k : Nat) : colophonref01_Decode.l0 (k + 1) r (n : Int) = colophonref01_Decode.j2 k r (n : Int) true := by
  simp only [colophonref01_Decode.l0]; rw [if_pos (by omega), decide_eq_true (by omega)]
theorem rj2_head {r : List Int} {n : Nat} (h4 : n ≤ 4) (hl : n ≤ r.length) (k : Nat) : colophonref01_Decode.j2 (k + 1) r (n : Int) true =
    (colophonref01_joined.f k r (n : Int)).bind fun t => (colophonref01_Encode.f t).bind fun q => if q.2 = 0 then ((colophonref00_EqBytes.f k q.1 (r.take n)).bind fun u => if u = true then some (t, (n : Int), 0) else colophonref01_Decode.l0 k r ((n + 1 : Nat) : Int)) else colophonref01_Decode.l0 k r ((n + 1 : Nat) : Int) := by
  have e1 : (0 : Int) ≤ (n : Int) := by omega
  have e2 : (n : Int) ≤ (r.length : Int) := by omega
  have e3 : wrap64 ((n : Int) + 1) = ((n + 1 : Nat) : Int) := by rw [w64 (by omega) (by omega)]; rfl
  simp only [colophonref01_Decode.j2, if_true, e1, e2, e3, Int.toNat_natCast]
theorem rl0_hit {r : List Int} {n : Nat} (hb : isBytes r) (h1 : 1 ≤ n) (h4 : n ≤ 4) (hl : n ≤ r.length) (h : hit r n) : Ev (fun k => colophonref01_Decode.l0 k r (n : Int)) (jn r n, (n : Int), 0) := by
  refine Ev.step (rl0_head h4 hl) (Ev.step (rj2_head h4 hl) (Ev.bind (joined_jn hb h1 h4 hl) ?_))
  have hw := jn_range (n := n) hb
  rw [refEncode _ (by omega), encode_ch h.1]
  simp only [Option.bind_some, if_true]
  rw [← h.2]
  exact Ev.bind (eqBytes_self _ (by have := (enc_pos (jn r n)).2; omega)) (Ev.now _)
theorem rl0_next {r : List Int} {n : Nat} {R : Int × Int × Int} (hb : isBytes r) (h1 : 1 ≤ n) (h4 : n ≤ 4) (hl : n ≤ r.length) (h : ¬ hit r n) (H : Ev (fun k => colophonref01_Decode.l0 k r ((n + 1 : Nat) : Int)) R) : Ev (fun k => colophonref01_Decode.l0 k r (n : Int)) R := by
  refine Ev.step (rl0_head h4 hl) (Ev.step (rj2_head h4 hl) (Ev.bind (joined_jn hb h1 h4 hl) ?_))
  have hw := jn_range (n := n) hb
  rw [refEncode _ (by omega)]
  by_cases hc : isCh (jn r n)
  · rw [encode_ch hc]
    simp only [Option.bind_some, if_true]
    have ne : ¬ enc (jn r n) = r.take n := fun e => h ⟨hc, e⟩
    have := eqBytes (enc (jn r n)) (r.take n) (by have := (enc_pos (jn r n)).2; omega)
    rw [decide_eq_false ne] at this
    refine Ev.bind this ?_
    simp only [Bool.false_eq_true, if_false]
    exact H
  · rw [encode_no hc]
    simp only [Option.bind_some]
    exact H
theorem rl0_end {r : List Int} {n : Nat} (hr : r ≠ []) (hb : isBytes r) (h4 : n ≤ 5) (hl : n = 5 ∨ r.length < n) (hno : ∀ m, 1 ≤ m → m ≤ 4 → m ≤ r.length → ¬ hit r m) : Ev (fun k => colophonref01_Decode.l0 k r (n : Int)) (dec r) := by
  have nochar : ∀ c t, isCh c → r ≠ enc c ++ t := by
    intro c t hc e
    have hp := enc_pos c
    refine hno (enc c).length hp.1 hp.2 (by rw [e]; simp) ?_
    have : jn r (enc c).length = c := by rw [e]; exact jn_enc hc t
    unfold hit
    rw [this]
    exact ⟨hc, by rw [e]; simp⟩
  refine Ev.step (f := fun k => colophonref01_Decode.j2 k r (n : Int) false) (fun k => ?_) ?_
  · simp only [colophonref01_Decode.l0]
    by_cases h : (n : Int) ≤ 4
    · rw [if_pos h, decide_eq_false (by omega)]
    · rw [if_neg h]
  by_cases hl4 : (r.length : Int) < 4
  · obtain ⟨R, hR, hev⟩ := begins_eq hr (by omega) hb
    refine Ev.step (f := fun k => (colophonref01_begins.f k r).bind fun t => if t = true then some (0, 0, 3) else some (0, 0, 10)) (fun k => ?_) (Ev.bind hev ?_)
    · simp only [colophonref01_Decode.j2, Bool.false_eq_true, if_false]
      rw [if_pos hl4]
    · cases R with
      | true =>
        simp only [if_true]
        rw [dec_piece (hR.mp rfl)]; exact Ev.now _
      | false =>
        simp only [Bool.false_eq_true, if_false]
        rw [← seen_dec hr hb (.none nochar (fun h => by have := hR.mpr h; simp at this))]; exact Ev.now _
  · have np : ¬ piece r := by
      rw [piece_lev hr]
      rintro ⟨m, h1, h2, _⟩
      omega
    rw [← seen_dec hr hb (.none nochar np)]
    refine Ev.step (f := fun _ => some (0, 0, 10)) (fun k => ?_) (Ev.now _)
    simp only [colophonref01_Decode.j2, Bool.false_eq_true, if_false]
    rw [if_neg hl4]
theorem hit_dec {r : List Int} {n : Nat} (hl : n ≤ r.length) (h : hit r n) : dec r = (jn r n, (n : Int), 0) := by
  have e : r = enc (jn r n) ++ r.drop n := by rw [h.2]; simp
  have hn : (enc (jn r n)).length = n := by rw [h.2]; simp; omega
  have := dec_enc h.1 (r.drop n)
  rw [← e, hn] at this
  exact this
theorem rl0_any {r : List Int} (hr : r ≠ []) (hb : isBytes r) (d : Nat) : ∀ n : Nat, n + d = 5 → 1 ≤ n → (∀ m, 1 ≤ m → m < n → m ≤ r.length → ¬ hit r m) → Ev (fun k => colophonref01_Decode.l0 k r (n : Int)) (dec r) := by
  induction d with
  | zero => intro n hn h1 hno; exact rl0_end hr hb (by omega) (.inl (by omega)) (fun m a b c => hno m a (by omega) c)
  | succ d ih =>
    intro n hn h1 hno
    by_cases hl : n ≤ r.length
    · by_cases h : hit r n
      · rw [hit_dec hl h]; exact rl0_hit hb h1 (by omega) hl h
      · refine rl0_next hb h1 (by omega) hl h (ih (n + 1) (by omega) (by omega) (fun m a b c => ?_))
        by_cases e : m = n
        · rw [e]; exact h
        · exact hno m a (by omega) c
    · exact rl0_end hr hb (by omega) (.inr (by omega)) (fun m a b c => hno m a (by omega) c)
theorem refDecode_out {l : List Int} {i : Int} (h : i < 0 ∨ (l.length : Int) ≤ i) : Ev (fun k => colophonref01_Decode.f k l i) (0, 0, 9) := by
  have J : Ev (fun k => colophonref01_Decode.j0 k l i true) (0, 0, 9) := Ev.step (f := fun _ => some (0, 0, 9)) (fun k => by simp only [colophonref01_Decode.j0, if_true]) (Ev.now _)
  unfold colophonref01_Decode.f
  by_cases h1 : i < 0
  · simp only [h1, if_true]; exact J
  · have h2 : i ≥ (l.length : Int) := by omega
    simp only [h1, h2, if_false, decide_true]; exact J
theorem refDecode_in {l : List Int} {i : Int} (h0 : 0 ≤ i) (h1 : i < (l.length : Int)) (hb : isBytes l) : Ev (fun k => colophonref01_Decode.f k l i) (dec (l.drop i.toNat)) := by
  have hd : isBytes (l.drop i.toNat) := fun x hx => hb x (List.mem_of_mem_drop hx)
  have hlen : (l.drop i.toNat).length = l.length - i.toNat := List.length_drop
  have hne : l.drop i.toNat ≠ [] := by intro e; rw [e] at hlen; simp at hlen; omega
  unfold colophonref01_Decode.f
  have h2 : ¬ i < 0 := by omega
  have h3 : ¬ i ≥ (l.length : Int) := by omega
  simp only [h2, h3, if_false, decide_false]
  refine Ev.step (f := fun k => colophonref01_Decode.l0 k (l.drop i.toNat) ((1 : Nat) : Int)) (fun k => ?_) (rl0_any hne hd 4 1 rfl (by omega) (fun m a b _ => by omega))
  simp only [colophonref01_Decode.j0, Bool.false_eq_true, if_false]
  rw [if_pos h0, if_pos (by omega)]; rfl

/-- Bytes of characters. -/
def encs (cs : List Int) : List Int := cs.flatMap enc
theorem encs_nil : encs [] = [] := rfl
theorem encs_cons (c : Int) (cs : List Int) : encs (c :: cs) = enc c ++ encs cs := rfl
theorem encs_append (a b : List Int) : encs (a ++ b) = encs a ++ encs b := by unfold encs; simp
/-- Bytes are read: the characters, and what is left. -/
inductive Text : List Int → List Int → List Int → Prop
  | done : Text [] [] []
  | stop (r : List Int) (hr : r ≠ []) (h : (dec r).2.2 ≠ 0) : Text r [] r
  | step (c : Int) (b cs r : List Int) (hc : isCh c) (h : Text b cs r) : Text (enc c ++ b) (c :: cs) r
/-- The error of what is left. -/
def err (r : List Int) : Int := if r = [] then 0 else (dec r).2.2

theorem Text.eq {b cs r : List Int} (h : Text b cs r) : b = encs cs ++ r := by
  induction h with
  | done => rfl
  | stop r _ _ => rfl
  | step c b cs r _ _ ih => rw [encs_cons, List.append_assoc, ← ih]
theorem Text.chars {b cs r : List Int} (h : Text b cs r) : ∀ c ∈ cs, isCh c := by
  induction h with
  | done => intro c hc; simp at hc
  | stop r _ _ => intro c hc; simp at hc
  | step c b cs r hc _ ih =>
    intro d hd
    rcases List.mem_cons.mp hd with rfl | h
    · exact hc
    · exact ih d h
theorem Text.rest {b cs r : List Int} (h : Text b cs r) : r = [] ∨ (r ≠ [] ∧ (dec r).2.2 ≠ 0) := by
  induction h with
  | done => exact .inl rfl
  | stop r hr h => exact .inr ⟨hr, h⟩
  | step c b cs r _ _ ih => exact ih
theorem err_zero {b cs r : List Int} (h : Text b cs r) : err r = 0 ↔ r = [] := by
  unfold err
  rcases h.rest with e | ⟨h1, h2⟩
  · simp [e]
  · rw [if_neg h1]; exact ⟨fun e => absurd e h2, fun e => absurd e h1⟩
theorem Text.of_chars {cs : List Int} (h : ∀ c ∈ cs, isCh c) : Text (encs cs) cs [] := by
  induction cs with
  | nil => exact .done
  | cons c cs ih => exact .step c _ cs [] (h c (by simp)) (ih (fun d hd => h d (by simp [hd])))
theorem Text.append {a cs b ds r : List Int} (h : Text a cs []) (h' : Text b ds r) : Text (a ++ b) (cs ++ ds) r := by
  generalize e : ([] : List Int) = z at h
  induction h with
  | done => exact h'
  | stop q hq _ => exact absurd e.symm hq
  | step c x xs q hc _ ih => rw [List.append_assoc]; exact .step c _ _ _ hc (ih e)
theorem text_exists (n : Nat) : ∀ b : List Int, b.length ≤ n → isBytes b → ∃ cs r, Text b cs r := by
  induction n with
  | zero =>
    intro b hn hb
    obtain rfl : b = [] := List.length_eq_zero_iff.mp (by omega)
    exact ⟨[], [], .done⟩
  | succ n ih =>
    intro b hn hb
    by_cases hne : b = []
    · subst hne; exact ⟨[], [], .done⟩
    have hs := dec_seen b hne hb
    generalize hd : dec b = d at hs
    cases hs with
    | char c t hc e =>
      have hp := enc_pos c
      have hl : b.length = (enc c).length + t.length := by rw [e]; simp
      obtain ⟨cs, r, h⟩ := ih t (by omega) (fun x hx => hb x (by rw [e]; simp [hx]))
      exact ⟨c :: cs, r, by rw [e]; exact .step c t cs r hc h⟩
    | piece _ => exact ⟨[], b, .stop b hne (by rw [hd]; simp)⟩
    | none _ _ => exact ⟨[], b, .stop b hne (by rw [hd]; simp)⟩
theorem text_of {b : List Int} (hb : isBytes b) : ∃ cs r, Text b cs r := text_exists b.length b (Nat.le_refl _) hb

theorem encs_len (cs : List Int) : cs.length ≤ (encs cs).length ∧ (encs cs).length ≤ 4 * cs.length := by
  induction cs with
  | nil => simp [encs_nil]
  | cons c cs ih =>
    have := enc_pos c
    rw [encs_cons, List.length_append, List.length_cons]; omega

/-! The program's Check and Count. -/
theorem check_loop {l : List Int} (hb : isBytes l) (hs : l.length ≤ 1000000000000000) {b cs r : List Int} (h : Text b cs r) : ∀ i : Nat, i ≤ l.length → l.drop i = b →
    Ev (fun k => runes_Check.l0 k l (i : Int)) (((i + (encs cs).length : Nat) : Int), err r) := by
  induction h with
  | done =>
    intro i hi hd
    have : l.length ≤ i := List.drop_eq_nil_iff.mp hd
    refine Ev.step (f := fun _ => some ((i : Int), 0)) (fun k => by simp only [runes_Check.l0]; rw [if_neg (by omega)]) ?_
    simp [encs_nil, err]; exact Ev.now _
  | stop r hr he =>
    intro i hi hd
    have hlt : i < l.length := by
      rcases Nat.lt_or_ge i l.length with h | h
      · exact h
      · exact absurd ((List.drop_eq_nil_iff.mpr h).symm.trans hd).symm hr
    have D := decode_in (l := l) (i := (i : Int)) (by omega) (by omega) hb
    rw [Int.toNat_natCast, hd] at D
    refine Ev.step (f := fun k => (runes_Decode.f k l (i : Int)).bind fun x => if x.2.2 = 0 then runes_Check.l0 k l (wrap64 ((i : Int) + x.2.1)) else some ((i : Int), x.2.2)) (fun k => by simp only [runes_Check.l0]; rw [if_pos (by omega)]) (Ev.bind D ?_)
    simp only [he, if_false]
    have : err r = (dec r).2.2 := by unfold err; rw [if_neg hr]
    rw [this]; exact Ev.now _
  | step c b cs r hc _ ih =>
    intro i hi hd
    have hp := enc_pos c
    have hl : l.length - i = (enc c).length + b.length := by rw [← List.length_drop, hd]; simp
    have D := decode_in (l := l) (i := (i : Int)) (by omega) (by omega) hb
    rw [Int.toNat_natCast, hd, dec_enc hc] at D
    refine Ev.step (f := fun k => (runes_Decode.f k l (i : Int)).bind fun x => if x.2.2 = 0 then runes_Check.l0 k l (wrap64 ((i : Int) + x.2.1)) else some ((i : Int), x.2.2)) (fun k => by simp only [runes_Check.l0]; rw [if_pos (by omega)]) (Ev.bind D ?_)
    have w : wrap64 ((i : Int) + ((enc c).length : Int)) = ((i + (enc c).length : Nat) : Int) := by unfold wrap64; omega
    simp only [w, if_true]
    have := ih (i + (enc c).length) (by omega) (by rw [← List.drop_drop, hd]; simp)
    rw [encs_cons, List.length_append, ← Nat.add_assoc]
    exact this
theorem check_eq {b cs r : List Int} (h : Text b cs r) (hb : isBytes b) (hs : b.length ≤ 1000000000000000) : Ev (fun k => runes_Check.f k b) (((encs cs).length : Int), err r) := by
  have := check_loop hb hs h 0 (by omega) rfl
  unfold runes_Check.f
  simpa using this

theorem refCheck_loop {l : List Int} (hb : isBytes l) (hs : l.length ≤ 140737488351232) {b cs r : List Int} (h : Text b cs r) : ∀ i : Nat, i ≤ l.length → l.drop i = b →
    Ev (fun k => colophonref01_Check.l0 k l (i : Int)) (((i + (encs cs).length : Nat) : Int), err r) := by
  induction h with
  | done =>
    intro i hi hd
    have : l.length ≤ i := List.drop_eq_nil_iff.mp hd
    refine Ev.step (f := fun _ => some ((i : Int), 0)) (fun k => by simp only [colophonref01_Check.l0]; rw [if_neg (by omega)]) ?_
    simp [encs_nil, err]; exact Ev.now _
  | stop r hr he =>
    intro i hi hd
    have hlt : i < l.length := by
      rcases Nat.lt_or_ge i l.length with h | h
      · exact h
      · exact absurd ((List.drop_eq_nil_iff.mpr h).symm.trans hd).symm hr
    have D := refDecode_in (l := l) (i := (i : Int)) (by omega) (by omega) hb
    rw [Int.toNat_natCast, hd] at D
    refine Ev.step (f := fun k => (colophonref01_Decode.f k l (i : Int)).bind fun x => if x.2.2 = 0 then colophonref01_Check.l0 k l (wrap64 ((i : Int) + x.2.1)) else some ((i : Int), x.2.2)) (fun k => by simp only [colophonref01_Check.l0]; rw [if_pos (by omega)]) (Ev.bind D ?_)
    simp only [he, if_false]
    have : err r = (dec r).2.2 := by unfold err; rw [if_neg hr]
    rw [this]; exact Ev.now _
  | step c b cs r hc _ ih =>
    intro i hi hd
    have hp := enc_pos c
    have hl : l.length - i = (enc c).length + b.length := by rw [← List.length_drop, hd]; simp
    have D := refDecode_in (l := l) (i := (i : Int)) (by omega) (by omega) hb
    rw [Int.toNat_natCast, hd, dec_enc hc] at D
    refine Ev.step (f := fun k => (colophonref01_Decode.f k l (i : Int)).bind fun x => if x.2.2 = 0 then colophonref01_Check.l0 k l (wrap64 ((i : Int) + x.2.1)) else some ((i : Int), x.2.2)) (fun k => by simp only [colophonref01_Check.l0]; rw [if_pos (by omega)]) (Ev.bind D ?_)
    have w : wrap64 ((i : Int) + ((enc c).length : Int)) = ((i + (enc c).length : Nat) : Int) := by unfold wrap64; omega
    simp only [w, if_true]
    have := ih (i + (enc c).length) (by omega) (by rw [← List.drop_drop, hd]; simp)
    rw [encs_cons, List.length_append, ← Nat.add_assoc]
    exact this
theorem refCheck_eq {b cs r : List Int} (h : Text b cs r) (hb : isBytes b) (hs : b.length ≤ 140737488351232) : Ev (fun k => colophonref01_Check.f k b) (((encs cs).length : Int), err r) := by
  have := refCheck_loop hb hs h 0 (by omega) rfl
  unfold colophonref01_Check.f
  simpa using this

/-- The units of a character. -/
def un (c : Int) : List Int := if c < 65536 then [c] else [55296 + (c - 65536) / 1024, 56320 + (c - 65536) % 1024]
/-- The units of characters. -/
def us (cs : List Int) : List Int := cs.flatMap un
theorem us_nil : us [] = [] := rfl
theorem us_cons (c : Int) (cs : List Int) : us (c :: cs) = un c ++ us cs := rfl
theorem us_append (a b : List Int) : us (a ++ b) = us a ++ us b := by unfold us; simp
theorem un_one {c : Int} (h : c < 65536) : un c = [c] := by unfold un; rw [if_pos h]
theorem un_two {c : Int} (h : ¬ c < 65536) : un c = [55296 + (c - 65536) / 1024, 56320 + (c - 65536) % 1024] := by unfold un; rw [if_neg h]
theorem un_len (c : Int) : (c < 65536 ∧ (un c).length = 1) ∨ (65536 ≤ c ∧ (un c).length = 2) := by
  by_cases h : c < 65536
  · rw [un_one h]; exact .inl ⟨h, rfl⟩
  · rw [un_two h]; exact .inr ⟨by omega, rfl⟩
theorem size_eq (c : Int) : units_size.f c = some ((un c).length : Int) := by
  unfold units_size.f
  rcases un_len c with ⟨h, e⟩ | ⟨h, e⟩ <;> rw [e]
  · rw [if_neg (by omega)]; rfl
  · rw [if_pos (by omega)]; rfl
theorem un_enc {c : Int} (hc : isCh c) : (un c).length ≤ (enc c).length ∧ (enc c).length ≤ 3 * (un c).length := by
  have h1 := enc_len hc
  have h2 := un_len c
  omega
theorem us_encs {cs : List Int} (h : ∀ c ∈ cs, isCh c) : (us cs).length ≤ (encs cs).length ∧ (encs cs).length ≤ 3 * (us cs).length := by
  induction cs with
  | nil => simp [us_nil, encs_nil]
  | cons c cs ih =>
    have h1 := un_enc (h c (by simp))
    have h2 := ih (fun d hd => h d (by simp [hd]))
    rw [us_cons, encs_cons, List.length_append, List.length_append]; omega
theorem un_u16 {c : Int} (hc : isCh c) : ∀ x ∈ un c, 0 ≤ x ∧ x ≤ 65535 := by
  unfold isCh at hc
  intro x hx
  rcases un_len c with ⟨h, e⟩ | ⟨h, e⟩
  · rw [un_one h] at hx; simp at hx; omega
  · rw [un_two (by omega)] at hx; simp at hx; omega

/-! Bits. -/
theorem wrap_u16 (n : Int) : IntKind.u16.wrap n = n % 65536 := by simp [IntKind.wrap, IntKind.bits, IntKind.signed]
theorem wraps_i64 (n : Int) (h0 : 0 ≤ n) (h1 : n < 2 ^ 40) : IntKind.i64.wrap n = n := by rw [IntKind.wrap_i64]; omega
theorem and1023 {x : Int} (h0 : 0 ≤ x) (h1 : x < 1099511627776) : bits .and .i64 x 1023 = x % 1024 := by
  have := bits_mask .i64 40 (by decide) wraps_i64 10 (by decide) x h0 (by omega)
  have e : (2 : Int) ^ 10 - 1 = 1023 := by decide
  have e2 : (2 : Int) ^ 10 = 1024 := by decide
  rw [e, e2] at this
  exact this
theorem or10 {x y : Int} (h0 : 0 ≤ x) (h1 : x < 1099511627776) (hx : x % 1024 = 0) (hy : 0 ≤ y) (hy1 : y < 1024) : bits .or .i64 x y = x + y :=
  bits_join .i64 40 (by decide) wraps_i64 10 x y h0 (by have : (2 : Int) ^ 10 = 1024 := by decide
                                                        omega) (by omega) hy (by omega) (by omega)
theorem and_high (a : Nat) (h : a < 65536) : a &&& 18446744073709550592 = a / 1024 * 1024 := by
  have e : 18446744073709550592 = (2 ^ 54 - 1) * 2 ^ 10 := by decide
  rw [e]
  apply Nat.eq_of_testBit_eq
  intro i
  rw [Nat.testBit_and, Nat.testBit_mul_two_pow, show a / 1024 * 1024 = a / 2 ^ 10 * 2 ^ 10 from rfl, Nat.testBit_mul_two_pow, Nat.testBit_div_two_pow, Nat.testBit_two_pow_sub_one]
  by_cases h1 : 10 ≤ i
  · rw [show i - 10 + 10 = i by omega]
    by_cases h2 : i - 10 < 54
    · simp [h1, h2]
    · have : a.testBit i = false := Nat.testBit_lt_two_pow (Nat.lt_of_lt_of_le h (by
        have : 2 ^ 16 ≤ 2 ^ i := Nat.pow_le_pow_right (by decide) (by omega)
        omega))
      simp [this]
  · simp [h1]
theorem andNot1023 {x : Int} (h0 : 0 ≤ x) (h1 : x < 65536) : bits .andNot .i64 x 1023 = x / 1024 * 1024 := by
  obtain ⟨a, rfl⟩ := Int.eq_ofNat_of_zero_le h0
  have ha : a < 65536 := by omega
  show IntKind.i64.wrap ((BitVec.ofInt 64 (a : Int) &&& ~~~BitVec.ofInt 64 (1023 : Int)).toNat : Int) = _
  have e1 : (BitVec.ofInt 64 (a : Int)).toNat = a := by
    rw [BitVec.ofInt_natCast, BitVec.toNat_ofNat]; omega
  have e2 : (~~~BitVec.ofInt 64 (1023 : Int)).toNat = 18446744073709550592 := by decide
  rw [BitVec.toNat_and, e1, e2, and_high a ha, IntKind.wrap_i64]
  omega

/-! Of. -/
theorem of_loop {l : List Int} (hb : isBytes l) (hs : l.length ≤ 140737488351232) {b cs r : List Int} (h : Text b cs r) : ∀ i n : Nat, i ≤ l.length → n ≤ i → l.drop i = b →
    Ev (fun k => units_Of.l0 k l (n : Int) (i : Int)) (if err r = 0 then ((n + (us cs).length : Nat) : Int) else 0, err r) := by
  induction h with
  | done =>
    intro i n hi hn hd
    have : l.length ≤ i := List.drop_eq_nil_iff.mp hd
    refine Ev.step (f := fun _ => some ((n : Int), 0)) (fun k => by simp only [units_Of.l0]; rw [if_neg (by omega)]) ?_
    simp [err, us_nil]; exact Ev.now _
  | stop r hr he =>
    intro i n hi hn hd
    have hlt : i < l.length := by
      rcases Nat.lt_or_ge i l.length with h | h
      · exact h
      · exact absurd ((List.drop_eq_nil_iff.mpr h).symm.trans hd).symm hr
    have D := decode_in (l := l) (i := (i : Int)) (by omega) (by omega) hb
    rw [Int.toNat_natCast, hd] at D
    refine Ev.step (f := fun k => (runes_Decode.f k l (i : Int)).bind fun x => if x.2.2 = 0 then ((units_size.f x.1).bind fun t => units_Of.l0 k l (wrap64 ((n : Int) + t)) (wrap64 ((i : Int) + x.2.1))) else some (0, x.2.2)) (fun k => by simp only [units_Of.l0]; rw [if_pos (by omega)]) (Ev.bind D ?_)
    have : err r = (dec r).2.2 := by unfold err; rw [if_neg hr]
    simp only [he, this, if_false]
    exact Ev.now _
  | step c b cs r hc _ ih =>
    intro i n hi hn hd
    have hp := enc_pos c
    have hu := un_enc hc
    have hl : l.length - i = (enc c).length + b.length := by rw [← List.length_drop, hd]; simp
    have D := decode_in (l := l) (i := (i : Int)) (by omega) (by omega) hb
    rw [Int.toNat_natCast, hd, dec_enc hc] at D
    refine Ev.step (f := fun k => (runes_Decode.f k l (i : Int)).bind fun x => if x.2.2 = 0 then ((units_size.f x.1).bind fun t => units_Of.l0 k l (wrap64 ((n : Int) + t)) (wrap64 ((i : Int) + x.2.1))) else some (0, x.2.2)) (fun k => by simp only [units_Of.l0]; rw [if_pos (by omega)]) (Ev.bind D ?_)
    have w : wrap64 ((i : Int) + ((enc c).length : Int)) = ((i + (enc c).length : Nat) : Int) := by unfold wrap64; omega
    have w2 : wrap64 ((n : Int) + ((un c).length : Int)) = ((n + (un c).length : Nat) : Int) := by unfold wrap64; omega
    simp only [size_eq, Option.bind_some, w, w2, if_true]
    have := ih (i + (enc c).length) (n + (un c).length) (by omega) (by omega) (by rw [← List.drop_drop, hd]; simp)
    have e2 : n + (un c).length + (us cs).length = n + (us (c :: cs)).length := by rw [us_cons, List.length_append]; omega
    rw [e2] at this
    exact this
theorem of_eq {b cs r : List Int} (h : Text b cs r) (hb : isBytes b) (hs : b.length ≤ 140737488351232) : Ev (fun k => units_Of.f k b) (if err r = 0 then ((us cs).length : Int) else 0, err r) := by
  have := of_loop hb hs h 0 0 (by omega) (by omega) rfl
  unfold units_Of.f
  simpa using this

/-! Of16. -/
theorem pair_eq {c : Int} (h0 : 65536 ≤ c) (h1 : c ≤ 1114111) : ([IntKind.u16.wrap (Go.bits .or .i64 55296 ((wrap64 (c - 65536)) / 1024)), IntKind.u16.wrap (Go.bits .or .i64 56320 (Go.bits .and .i64 (wrap64 (c - 65536)) 1023))] : List Int) = un c := by
  have w : wrap64 (c - 65536) = c - 65536 := by unfold wrap64; omega
  rw [w, and1023 (by omega) (by omega), or10 (by omega) (by omega) (by omega) (by omega) (by omega), or10 (by omega) (by omega) (by omega) (by omega) (by omega), wrap_u16, wrap_u16, un_two (by omega)]
  congr 1
  · omega
  · congr 1; omega
theorem of16_loop {l : List Int} (hb : isBytes l) (hs : l.length ≤ 1000000000000000) {b cs r : List Int} (h : Text b cs r) : ∀ (i : Nat) (acc : List Int), i ≤ l.length → acc.length + (us cs).length ≤ 70368744177660 → l.drop i = b →
    Ev (fun k => units_Of16.l0 k l acc (i : Int)) (if err r = 0 then acc ++ us cs else [], err r) := by
  induction h with
  | done =>
    intro i acc hi hn hd
    have : l.length ≤ i := List.drop_eq_nil_iff.mp hd
    refine Ev.step (f := fun _ => some (acc, 0)) (fun k => by simp only [units_Of16.l0]; rw [if_neg (by omega)]) ?_
    simp [err, us_nil]; exact Ev.now _
  | stop r hr he =>
    intro i acc hi hn hd
    have hlt : i < l.length := by
      rcases Nat.lt_or_ge i l.length with h | h
      · exact h
      · exact absurd ((List.drop_eq_nil_iff.mpr h).symm.trans hd).symm hr
    have D := decode_in (l := l) (i := (i : Int)) (by omega) (by omega) hb
    rw [Int.toNat_natCast, hd] at D
    obtain ⟨F, hF⟩ : ∃ F : Nat → Int × Int × Int → Option (List Int × Int), ∀ k, units_Of16.l0 (k + 1) l acc (i : Int) = (runes_Decode.f k l (i : Int)).bind fun x => if x.2.2 = 0 then F k x else some (([] : List Int), x.2.2) :=
      ⟨_, fun k => by simp only [units_Of16.l0]; rw [if_pos (by omega)]⟩
    refine Ev.step hF (Ev.bind D ?_)
    have : err r = (dec r).2.2 := by unfold err; rw [if_neg hr]
    simp only [he, this, if_false]
    exact Ev.now _
  | step c b cs r hc _ ih =>
    intro i acc hi hn hd
    have hp := enc_pos c
    have hu := un_enc hc
    have hl : l.length - i = (enc c).length + b.length := by rw [← List.length_drop, hd]; simp
    have D := decode_in (l := l) (i := (i : Int)) (by omega) (by omega) hb
    rw [Int.toNat_natCast, hd, dec_enc hc] at D
    refine Ev.step (f := fun k => (runes_Decode.f k l (i : Int)).bind fun x => if x.2.2 = 0 then ((units_size.f x.1).bind fun t => (if t = 1 then (if acc.length < 70368744177664 then (units_Of16.l0 k l (acc ++ [IntKind.u16.wrap (x.1)]) (wrap64 ((i : Int) + x.2.1))) else (none)) else ((some (([IntKind.u16.wrap (Go.bits .or .i64 55296 ((wrap64 (x.1 - 65536)) / 1024)), IntKind.u16.wrap (Go.bits .or .i64 56320 (Go.bits .and .i64 (wrap64 (x.1 - 65536)) 1023))] : List Int) : List Int)).bind fun y => (if acc.length + y.length < 70368744177664 then (units_Of16.l0 k l (acc ++ y) (wrap64 ((i : Int) + x.2.1))) else (none))))) else some (([] : List Int), x.2.2)) (fun k => by simp only [units_Of16.l0]; rw [if_pos (by omega)]) (Ev.bind D ?_)
    have w : wrap64 ((i : Int) + ((enc c).length : Int)) = ((i + (enc c).length : Nat) : Int) := by unfold wrap64; omega
    simp only [size_eq, Option.bind_some, w, if_true]
    have hch := hc
    unfold isCh at hch
    rw [us_cons, List.length_append] at hn
    have I := ih (i + (enc c).length) (acc ++ un c) (by omega) (by rw [List.length_append]; omega) (by rw [← List.drop_drop, hd]; simp)
    rw [List.append_assoc, ← us_cons] at I
    rcases un_len c with ⟨h, e⟩ | ⟨h, e⟩
    · have e1 : ((un c).length : Int) = 1 := by omega
      have s : acc.length < 70368744177664 := by omega
      have u : IntKind.u16.wrap c = c := by rw [wrap_u16]; omega
      simp only [e1, s, u, if_true]
      rw [un_one h] at I
      exact I
    · have e1 : ¬ ((un c).length : Int) = 1 := by omega
      have s : acc.length + (un c).length < 70368744177664 := by omega
      simp only [e1, if_false, pair_eq h hch.2.1, s, if_true]
      exact I
theorem of16_eq_of {b cs r : List Int} (h : Text b cs r) (hb : isBytes b) (hs : b.length ≤ 1000000000000000) (hu : (us cs).length ≤ 70368744177660) : Ev (fun k => units_Of16.f k b) (if err r = 0 then us cs else [], err r) := by
  have := of16_loop hb hs h 0 [] (by omega) (by simpa using hu) rfl
  unfold units_Of16.f
  simpa using this
theorem of16_eq {b cs r : List Int} (h : Text b cs r) (hb : isBytes b) (hs : b.length ≤ 70368744177660) : Ev (fun k => units_Of16.f k b) (if err r = 0 then us cs else [], err r) := by
  have h1 := us_encs h.chars
  have h2 : b.length = (encs cs).length + r.length := by rw [h.eq, List.length_append]
  exact of16_eq_of h hb (by omega) (by omega)

/-- Where so many units end: how many characters. -/
def many : List Int → Int → Nat
  | [], _ => 0
  | c :: cs, n => if ((un c).length : Int) > n then 0 else 1 + many cs (n - ((un c).length : Int))
theorem many_le (cs : List Int) : ∀ n, many cs n ≤ cs.length := by
  induction cs with
  | nil => intro n; simp [many]
  | cons c cs ih =>
    intro n
    unfold many
    split
    · omega
    · have := ih (n - ((un c).length : Int)); rw [List.length_cons]; omega
theorem many_units (cs : List Int) : ∀ n : Int, 0 ≤ n → ((us (cs.take (many cs n))).length : Int) ≤ n := by
  induction cs with
  | nil => intro n hn; simp [many, us_nil]; exact hn
  | cons c cs ih =>
    intro n hn
    unfold many
    split
    · simp [us_nil]; exact hn
    · have := ih (n - ((un c).length : Int)) (by omega)
      rw [Nat.add_comm, List.take_succ_cons, us_cons, List.length_append]; omega
theorem many_next (cs : List Int) : ∀ n : Int, 0 ≤ n → (h : many cs n < cs.length) → ((us (cs.take (many cs n + 1))).length : Int) > n := by
  induction cs with
  | nil => intro n hn h; simp at h
  | cons c cs ih =>
    intro n hn h
    unfold many at h ⊢
    by_cases hc : ((un c).length : Int) > n
    · rw [if_pos hc]
      rw [show 0 + 1 = 0 + 1 from rfl, List.take_succ_cons, us_cons, List.length_append]; omega
    · rw [if_neg hc] at h ⊢
      rw [List.length_cons] at h
      have := ih (n - ((un c).length : Int)) (by omega) (by omega)
      have e : 1 + many cs (n - ((un c).length : Int)) + 1 = (many cs (n - ((un c).length : Int)) + 1) + 1 := by omega
      rw [e, List.take_succ_cons, us_cons, List.length_append]; omega
theorem many_mono (cs : List Int) : ∀ n m : Int, n ≤ m → many cs n ≤ many cs m := by
  induction cs with
  | nil => intro n m _; simp [many]
  | cons c cs ih =>
    intro n m h
    unfold many
    by_cases h1 : ((un c).length : Int) > n
    · rw [if_pos h1]; omega
    · rw [if_neg h1, if_neg (by omega)]
      have := ih (n - ((un c).length : Int)) (m - ((un c).length : Int)) (by omega)
      omega
theorem many_all (cs : List Int) : ∀ n : Int, ((us cs).length : Int) ≤ n → many cs n = cs.length := by
  induction cs with
  | nil => intro n _; rfl
  | cons c cs ih =>
    intro n h
    rw [us_cons, List.length_append] at h
    unfold many
    rw [if_neg (by omega), ih _ (by omega), List.length_cons]; omega
theorem many_prefix (cs ds : List Int) : many (cs ++ ds) ((us cs).length : Int) = cs.length := by
  induction cs with
  | nil =>
    cases ds with
    | nil => rfl
    | cons d ds =>
      have := un_len d
      simp only [List.nil_append, us_nil, List.length_nil, many]
      rw [if_pos (by omega)]
  | cons c cs ih =>
    rw [List.cons_append]
    unfold many
    rw [us_cons, List.length_append, if_neg (by omega), show ((((un c).length + (us cs).length : Nat) : Int) - ((un c).length : Int)) = ((us cs).length : Int) by omega, ih, List.length_cons]; omega

theorem offset_loop {l : List Int} (hb : isBytes l) (hs : l.length ≤ 140737488351232) {b cs r : List Int} (h : Text b cs r) : r = [] → ∀ (i : Nat) (n : Int), i ≤ l.length → 0 ≤ n → n ≤ 9223372036854775807 → l.drop i = b →
    Ev (fun k => units_Offset.l0 k l n (i : Int)) (((i + (encs (cs.take (many cs n))).length : Nat) : Int), 0) := by
  induction h with
  | done =>
    intro _ i n hi hn hm hd
    have : l.length ≤ i := List.drop_eq_nil_iff.mp hd
    refine Ev.step (f := fun _ => some ((i : Int), 0)) (fun k => by simp only [units_Offset.l0]; rw [if_neg (by omega)]) ?_
    simp [many, encs_nil]; exact Ev.now _
  | stop r hr he => intro e; exact absurd e hr
  | step c b cs r hc _ ih =>
    intro e i n hi hn hm hd
    have hp := enc_pos c
    have hl : l.length - i = (enc c).length + b.length := by rw [← List.length_drop, hd]; simp
    have D := decode_in (l := l) (i := (i : Int)) (by omega) (by omega) hb
    rw [Int.toNat_natCast, hd, dec_enc hc] at D
    refine Ev.step (f := fun k => (runes_Decode.f k l (i : Int)).bind fun x => (units_size.f x.1).bind fun t => if t > n then some ((i : Int), 0) else (units_size.f x.1).bind fun u => units_Offset.l0 k l (wrap64 (n - u)) (wrap64 ((i : Int) + x.2.1))) (fun k => by simp only [units_Offset.l0]; rw [if_pos (by omega)]) (Ev.bind D ?_)
    have w : wrap64 ((i : Int) + ((enc c).length : Int)) = ((i + (enc c).length : Nat) : Int) := by unfold wrap64; omega
    simp only [size_eq, Option.bind_some, w]
    by_cases hg : ((un c).length : Int) > n
    · simp only [hg, if_true]
      have e0 : many (c :: cs) n = 0 := by unfold many; rw [if_pos hg]
      rw [e0]
      simp [encs_nil]; exact Ev.now _
    · have w2 : wrap64 (n - ((un c).length : Int)) = n - ((un c).length : Int) := by unfold wrap64; omega
      simp only [hg, if_false, w2]
      have I := ih e (i + (enc c).length) (n - ((un c).length : Int)) (by omega) (by omega) (by omega) (by rw [← List.drop_drop, hd]; simp)
      have e0 : many (c :: cs) n = many cs (n - ((un c).length : Int)) + 1 := by
        show (if ((un c).length : Int) > n then 0 else 1 + many cs (n - ((un c).length : Int))) = _
        rw [if_neg hg]; omega
      rw [e0, List.take_succ_cons, encs_cons, List.length_append, ← Nat.add_assoc]
      exact I
/-- What Offset answers. -/
def offs (cs r : List Int) (n : Int) : Int × Int := if err r = 0 then (if n < 0 then (0, 9) else (((encs (cs.take (many cs n))).length : Int), 0)) else (0, err r)
theorem offset_eq {b cs r : List Int} (h : Text b cs r) (hb : isBytes b) (hs : b.length ≤ 140737488351232) {n : Int} (hn : n ≤ 9223372036854775807) : Ev (fun k => units_Offset.f k b n) (offs cs r n) := by
  unfold units_Offset.f offs
  refine Ev.bind (check_eq h hb (by omega)) ?_
  by_cases he : err r = 0
  · simp only [he, if_true]
    by_cases h0 : n < 0
    · simp only [h0, if_true]; exact Ev.now _
    · simp only [h0, if_false]
      have := offset_loop hb hs h ((err_zero h).mp he) 0 n (by omega) (by omega) hn rfl
      simpa using this
  · simp only [he, if_false]; exact Ev.now _

/-! Text. -/
/-- The characters of units, if they are a text's. -/
def chars : List Int → Option (List Int)
  | [] => some []
  | a :: t =>
    if 55296 ≤ a ∧ a < 56320 then
      match t with
      | [] => none
      | b :: t => if 56320 ≤ b ∧ b < 57344 then (chars t).map (fun cs => (65536 + (a - 55296) * 1024 + (b - 56320)) :: cs) else none
    else if 56320 ≤ a ∧ a < 57344 then none
    else (chars t).map (fun cs => a :: cs)
def isUnits (l : List Int) : Prop := ∀ x ∈ l, 0 ≤ x ∧ x ≤ 65535
/-- Where 'chars' has characters: how they come one by one. -/
theorem chars_none_hi {a : Int} {t : List Int} (h : 55296 ≤ a ∧ a < 56320) (ht : ∀ b t', t = b :: t' → ¬ (56320 ≤ b ∧ b < 57344)) : chars (a :: t) = none := by
  cases t with
  | nil => simp only [chars, h]; simp
  | cons b t =>
    have := ht b t rfl
    rw [chars]; simp only [h, this, if_false]; simp
theorem chars_pair {a b : Int} {t : List Int} (h : 55296 ≤ a ∧ a < 56320) (h' : 56320 ≤ b ∧ b < 57344) : chars (a :: b :: t) = (chars t).map (fun cs => (65536 + (a - 55296) * 1024 + (b - 56320)) :: cs) := by
  rw [chars]; simp only [h, h']; simp
theorem chars_lo {a : Int} {t : List Int} (h : 56320 ≤ a ∧ a < 57344) : chars (a :: t) = none := by
  have h1 : ¬ (55296 ≤ a ∧ a < 56320) := by omega
  rw [chars.eq_def]; simp only [h1, h, if_false]; simp
theorem chars_one {a : Int} {t : List Int} (h : ¬ (55296 ≤ a ∧ a < 57344)) : chars (a :: t) = (chars t).map (fun cs => a :: cs) := by
  have h1 : ¬ (55296 ≤ a ∧ a < 56320) := by omega
  have h2 : ¬ (56320 ≤ a ∧ a < 57344) := by omega
  rw [chars.eq_def]; simp only [h1, h2, if_false]
theorem chars_us {cs : List Int} (h : ∀ c ∈ cs, isCh c) : chars (us cs) = some cs := by
  induction cs with
  | nil => rfl
  | cons c cs ih =>
    have hc := h c (by simp)
    unfold isCh at hc
    have I := ih (fun d hd => h d (by simp [hd]))
    rw [us_cons]
    by_cases hl : c < 65536
    · rw [un_one hl, List.cons_append, List.nil_append, chars_one (by omega), I]; rfl
    · rw [un_two hl, List.cons_append, List.cons_append, List.nil_append, chars_pair (by omega) (by omega), I, Option.map_some]
      congr 2; omega
theorem us_chars (n : Nat) : ∀ (l cs : List Int), l.length ≤ n → isUnits l → chars l = some cs → us cs = l ∧ ∀ c ∈ cs, isCh c := by
  induction n with
  | zero =>
    intro l cs hn hl h
    obtain rfl : l = [] := List.length_eq_zero_iff.mp (by omega)
    simp only [chars, Option.some.injEq] at h
    subst h; exact ⟨rfl, by simp⟩
  | succ n ih =>
    intro l cs hn hl h
    cases l with
    | nil =>
      simp only [chars, Option.some.injEq] at h
      subst h; exact ⟨rfl, by simp⟩
    | cons a t =>
      have ha := hl a (by simp)
      rw [List.length_cons] at hn
      by_cases h1 : 55296 ≤ a ∧ a < 56320
      · cases t with
        | nil => rw [chars_none_hi h1 (by simp)] at h; simp at h
        | cons b t =>
          by_cases h2 : 56320 ≤ b ∧ b < 57344
          · rw [chars_pair h1 h2, Option.map_eq_some_iff] at h
            obtain ⟨ds, hds, rfl⟩ := h
            rw [List.length_cons] at hn
            obtain ⟨e1, e2⟩ := ih t ds (by omega) (fun x hx => hl x (by simp [hx])) hds
            refine ⟨?_, ?_⟩
            · rw [us_cons, un_two (by omega), e1, List.cons_append, List.cons_append, List.nil_append]
              congr 1
              · omega
              · congr 1; omega
            · intro c hc
              rcases List.mem_cons.mp hc with rfl | hc
              · unfold isCh; omega
              · exact e2 c hc
          · rw [chars_none_hi h1 (fun x t' e => by injection e with e1 e2; subst e1; exact h2)] at h; simp at h
      · by_cases h2 : 56320 ≤ a ∧ a < 57344
        · rw [chars_lo h2] at h; simp at h
        · rw [chars_one (by omega), Option.map_eq_some_iff] at h
          obtain ⟨ds, hds, rfl⟩ := h
          obtain ⟨e1, e2⟩ := ih t ds (by omega) (fun x hx => hl x (by simp [hx])) hds
          refine ⟨?_, ?_⟩
          · rw [us_cons, un_one (by omega), e1]; rfl
          · intro c hc
            rcases List.mem_cons.mp hc with rfl | hc
            · unfold isCh; omega
            · exact e2 c hc

theorem text_loop (n : Nat) : ∀ (l acc : List Int), l.length ≤ n → acc.length + 3 * l.length ≤ 211106232532984 → isUnits l →
    Ev (fun k => units_Text.l0 k l acc) (match chars l with | some cs => (acc ++ encs cs, 0) | none => ([], 10)) := by
  induction n with
  | zero =>
    intro l acc hn hs hl
    obtain rfl : l = [] := List.length_eq_zero_iff.mp (by omega)
    refine Ev.step (f := fun _ => some (acc, 0)) (fun k => by simp only [units_Text.l0]; rw [if_neg (by simp)]) ?_
    simp [chars, encs_nil]; exact Ev.now _
  | succ n ih =>
    intro l acc hn hs hl
    cases l with
    | nil =>
      refine Ev.step (f := fun _ => some (acc, 0)) (fun k => by simp only [units_Text.l0]; rw [if_neg (by simp)]) ?_
      simp [chars, encs_nil]; exact Ev.now _
    | cons a t =>
      have ha := hl a (by simp)
      rw [List.length_cons] at hn
      have wa : wrap64 (rd (a :: t) 0) = a := by rw [rd0]; unfold wrap64; omega
      have hpos : ((a :: t).length : Int) > 0 := by rw [List.length_cons]; omega
      have hpos' : 0 < ((a :: t).length : Int) := hpos
      -- one unit alone
      have alone : ∀ R, (isCh a → Ev (fun k => units_Text.l0 k t (acc ++ enc a)) R) → (¬ isCh a → R = ([], 10)) → Ev (fun k => units_Text.j1 k (a :: t) acc a 1 false) R := by
        intro R h1 h2
        obtain ⟨F, hF⟩ : ∃ F : Nat → List Int × Int → Option (List Int × Int), ∀ k, units_Text.j1 (k + 1) (a :: t) acc a 1 false = (runes_Encode.f a).bind (F k) ∧ ∀ x, F k (x, 0) = (if acc.length + x.length < 211106232532992 then units_Text.l0 k t (acc ++ x) else none) ∧ F k (x, 10) = some ([], 10) := by
          refine ⟨_, fun k => ⟨by simp only [units_Text.j1, Bool.false_eq_true, if_false]; rfl, fun x => ⟨?_, ?_⟩⟩⟩
          · have : (1 : Int) ≤ ((a :: t).length : Int) := by omega
            simp only [if_true, this, show (0 : Int) ≤ 1 by omega]; rfl
          · rfl
        by_cases hc : isCh a
        · have hp := enc_pos a
          refine Ev.step (f := fun k => units_Text.l0 k t (acc ++ enc a)) (fun k => ?_) (h1 hc)
          rw [(hF k).1, encode_ch hc, Option.bind_some, ((hF k).2 _).1, if_pos (by omega)]
        · rw [h2 hc]
          refine Ev.step (f := fun _ => some ([], 10)) (fun k => ?_) (Ev.now _)
          rw [(hF k).1, encode_no hc, Option.bind_some, ((hF k).2 _).2]
      by_cases h1 : 55296 ≤ a ∧ a < 56320
      · have m1 : bits .andNot .i64 a 1023 = 55296 := by rw [andNot1023 (by omega) (by omega)]; omega
        have nc : ¬ isCh a := by unfold isCh; omega
        cases t with
        | nil =>
          rw [chars_none_hi h1 (by simp)]
          refine Ev.step (f := fun k => units_Text.j1 k [a] acc a 1 false) (fun k => ?_) (alone _ (fun h => absurd h nc) (fun _ => rfl))
          simp only [units_Text.l0]
          rw [if_pos hpos, if_pos hpos', wa, if_pos m1, if_neg (by simp)]
        | cons b t =>
          have hb := hl b (by simp)
          have wb : wrap64 (rd (a :: b :: t) 1) = b := by rw [rd1]; unfold wrap64; omega
          have head : ∀ k, units_Text.l0 (k + 1) (a :: b :: t) acc = units_Text.j1 k (a :: b :: t) acc a 1 (bits .andNot .i64 b 1023 == 56320) := by
            intro k
            simp only [units_Text.l0]
            rw [if_pos hpos, if_pos hpos', wa, if_pos m1, if_pos (by simp only [List.length_cons]; omega), if_pos (by simp only [List.length_cons]; omega), wb]
          refine Ev.step head ?_
          by_cases h2 : 56320 ≤ b ∧ b < 57344
          · have m2 : (bits .andNot .i64 b 1023 == 56320) = true := by
              rw [andNot1023 (by omega) (by omega), beq_iff_eq]; omega
            rw [m2, chars_pair h1 h2]
            obtain ⟨c, hcd⟩ : ∃ c, c = 65536 + (a - 55296) * 1024 + (b - 56320) := ⟨_, rfl⟩
            have hc : isCh c := by unfold isCh; omega
            have hp := enc_pos c
            have ec : wrap64 (65536 + (Go.bits .or .i64 (wrap64 ((Go.bits .and .i64 a 1023) * 1024)) (Go.bits .and .i64 b 1023))) = c := by
              rw [and1023 (by omega) (by omega), and1023 (by omega) (by omega), show wrap64 (a % 1024 * 1024) = a % 1024 * 1024 by unfold wrap64; omega, or10 (by omega) (by omega) (by omega) (by omega) (by omega)]
              unfold wrap64; omega
            rw [← hcd]
            refine Ev.step (f := fun k => units_Text.l0 k t (acc ++ enc c)) (fun k => ?_) ?_
            · simp only [units_Text.j1, if_true]
              rw [if_pos (by simp only [List.length_cons]; omega), wb, ec, encode_ch hc]
              simp only [Option.bind_some, if_true]
              rw [if_pos (by omega), if_pos (by simp only [List.length_cons]; omega)]; rfl
            · rw [List.length_cons] at hn
              have hcl : (enc c).length ≤ 4 := hp.2
              have I := ih t (acc ++ enc c) (by omega) (by
                rw [List.length_append]
                simp only [List.length_cons] at hs
                omega) (fun x hx => hl x (by simp [hx]))
              cases ht : chars t with
              | none => rw [ht] at I; exact I
              | some ds =>
                rw [ht] at I
                simp only [Option.map_some, encs_cons]
                simp only [List.append_assoc] at I
                exact I
          · have m2 : (bits .andNot .i64 b 1023 == 56320) = false := by
              rw [andNot1023 (by omega) (by omega), beq_eq_false_iff_ne]; omega
            rw [m2, chars_none_hi h1 (fun x t' e => by injection e with e1 e2; subst e1; exact h2)]
            exact alone _ (fun h => absurd h nc) (fun _ => rfl)
      · have m1 : ¬ bits .andNot .i64 a 1023 = 55296 := by rw [andNot1023 (by omega) (by omega)]; omega
        refine Ev.step (f := fun k => units_Text.j1 k (a :: t) acc a 1 false) (fun k => ?_) ?_
        · simp only [units_Text.l0]
          rw [if_pos hpos, if_pos hpos', wa, if_neg m1]
        · refine alone _ (fun hc => ?_) (fun hc => ?_)
          · have hr : ¬ (55296 ≤ a ∧ a < 57344) := by unfold isCh at hc; omega
            rw [chars_one hr]
            have hl3 : (enc a).length ≤ 3 := by have := enc_len hc; omega
            rw [List.length_cons] at hs
            have I := ih t (acc ++ enc a) (by omega) (by rw [List.length_append]; omega) (fun x hx => hl x (by simp [hx]))
            cases ht : chars t with
            | none => rw [ht] at I; exact I
            | some ds =>
              rw [ht] at I
              simp only [Option.map_some, encs_cons]
              simp only [List.append_assoc] at I
              exact I
          · have hr : 56320 ≤ a ∧ a < 57344 := by unfold isCh at hc; omega
            rw [chars_lo hr]

theorem same_l0 (a b : List Int) (hl : a.length = b.length) (hs : a.length ≤ 140737488355328) (d : Nat) : ∀ i : Nat, i + d = a.length →
    Ev (fun k => colophonref02_Same.l0 k a b (i : Int)) (decide (a.drop i = b.drop i)) := by
  induction d with
  | zero =>
    intro i hi
    refine Ev.step (f := fun _ => some true) (fun k => ?_) ?_
    · simp only [colophonref02_Same.l0]; rw [if_neg (by omega)]
    · rw [List.drop_of_length_le (by omega), List.drop_of_length_le (by omega)]; simp; exact Ev.now _
  | succ d ih =>
    intro i hi
    have ha : i < a.length := by omega
    have hb : i < b.length := by omega
    rw [drop_cons ha, drop_cons hb]
    have w1 : wrap64 ((i : Int) + 1) = ((i + 1 : Nat) : Int) := by unfold wrap64; omega
    by_cases e : a.getD i 0 = b.getD i 0
    · refine Ev.step (f := fun k => colophonref02_Same.l0 k a b ((i + 1 : Nat) : Int)) (fun k => ?_) ?_
      · simp only [colophonref02_Same.l0]
        rw [if_pos (by omega), if_pos (by omega), if_pos (by omega), if_pos (by simpa [rd] using e), w1]
      · have := ih (i + 1) (by omega)
        rw [e]
        simpa using this
    · refine Ev.step (f := fun _ => some false) (fun k => ?_) ?_
      · simp only [colophonref02_Same.l0]
        rw [if_pos (by omega), if_pos (by omega), if_pos (by omega), if_neg (by simpa [rd] using e)]
      · have : ¬ (a.getD i 0 :: a.drop (i + 1) = b.getD i 0 :: b.drop (i + 1)) := by intro h; injection h; contradiction
        rw [decide_eq_false this]; exact Ev.now _
theorem same_eq (a b : List Int) (hs : a.length ≤ 140737488355328) : Ev (fun k => colophonref02_Same.f k a b) (decide (a = b)) := by
  unfold colophonref02_Same.f
  by_cases hl : (a.length : Int) = (b.length : Int)
  · simp only [hl, if_true]
    have := same_l0 a b (by omega) hs a.length 0 (by omega)
    simpa using this
  · simp only [hl, if_false]
    have : ¬ a = b := by intro e; rw [e] at hl; exact hl rfl
    rw [decide_eq_false this]; exact Ev.now _
theorem same_self (a : List Int) (hs : a.length ≤ 140737488355328) : Ev (fun k => colophonref02_Same.f k a a) true := by
  have := same_eq a a hs
  simpa using this
theorem unworks_true : Ev (fun k => colophonlaw02_works.f k) true := Ev.of colophonlaw02_works.mono (k := 30) (by decide +kernel)
theorem encs_bytes {cs : List Int} (h : ∀ c ∈ cs, isCh c) : isBytes (encs cs) := by
  intro x hx
  obtain ⟨c, hc', hx'⟩ := List.mem_flatMap.mp hx
  exact enc_bytes (h c hc') x hx'
theorem us_units {cs : List Int} (h : ∀ c ∈ cs, isCh c) : isUnits (us cs) := by
  intro x hx
  obtain ⟨c, hc', hx'⟩ := List.mem_flatMap.mp hx
  exact un_u16 (h c hc') x hx'
theorem wf16 {a : Int} (h : (Lit.int .u16 a).wf = true) : 0 ≤ a ∧ a ≤ 65535 := by
  simpa [Lit.wf, IntKind.min, IntKind.max, IntKind.signed, IntKind.bits] using h
theorem units_of {l : List Int} (h : ∀ x ∈ l, (Lit.int .u16 x).wf = true) : isUnits l := fun x hx => wf16 (h x hx)
theorem err_nil : err [] = 0 := rfl

theorem refUnits {c : Int} (hc : isCh c) : colophonref02_units.f c = some (un c) := by
  unfold isCh at hc
  unfold colophonref02_units.f
  by_cases h : c < 65536
  · rw [if_pos h, un_one h, wrap_u16, show c % 65536 = c by omega]
  · have w1 : wrap64 (c - 65536) = c - 65536 := by unfold wrap64; omega
    rw [if_neg h, un_two h, w1, tdiv_nn (by omega), tmod_nn (by omega), wrap_u16, wrap_u16, w64 (x := (c - 65536) / 1024) (by omega) (by omega), w64 (x := 55296 + (c - 65536) / 1024) (by omega) (by omega), w64 (x := 56320 + (c - 65536) % 1024) (by omega) (by omega), show (55296 + (c - 65536) / 1024) % 65536 = 55296 + (c - 65536) / 1024 by omega, show (56320 + (c - 65536) % 1024) % 65536 = 56320 + (c - 65536) % 1024 by omega]

theorem refOff_head {l : List Int} {n p s i : Int} (h : i < (l.length : Int)) (k : Nat) : colophonref02_Offset.l0 (k + 1) l n p s i = (colophonref01_Decode.f k l i).bind fun x => (colophonref02_units.f x.1).bind fun t => if wrap64 (s + (t.length : Int)) ≤ n then colophonref02_Offset.l0 k l n (wrap64 (i + x.2.1)) (wrap64 (s + (t.length : Int))) (wrap64 (i + x.2.1)) else colophonref02_Offset.l0 k l n p (wrap64 (s + (t.length : Int))) (wrap64 (i + x.2.1)) := by
  simp only [colophonref02_Offset.l0]; rw [if_pos h]
theorem refOff_over {l : List Int} (hb : isBytes l) (hs : l.length ≤ 140737488351232) {n p : Int} {b cs r : List Int} (h : Text b cs r) : r = [] → ∀ (i s : Nat), i ≤ l.length → s ≤ 2 * i → n < (s : Int) → l.drop i = b →
    Ev (fun k => colophonref02_Offset.l0 k l n p (s : Int) (i : Int)) (p, 0) := by
  induction h with
  | done =>
    intro _ i s hi hs2 hn hd
    have : l.length ≤ i := List.drop_eq_nil_iff.mp hd
    exact Ev.step (f := fun _ => some (p, 0)) (fun k => by simp only [colophonref02_Offset.l0]; rw [if_neg (by omega)]) (Ev.now _)
  | stop r hr he => intro e; exact absurd e hr
  | step c b cs r hc _ ih =>
    intro e i s hi hs2 hn hd
    have hp := enc_pos c
    have hu := un_enc hc
    have hl : l.length - i = (enc c).length + b.length := by rw [← List.length_drop, hd]; simp
    have D := refDecode_in (l := l) (i := (i : Int)) (by omega) (by omega) hb
    rw [Int.toNat_natCast, hd, dec_enc hc] at D
    refine Ev.step (refOff_head (by omega)) (Ev.bind D ?_)
    rw [refUnits hc]
    have w : wrap64 ((i : Int) + ((enc c).length : Int)) = ((i + (enc c).length : Nat) : Int) := by unfold wrap64; omega
    have w2 : wrap64 ((s : Int) + ((un c).length : Int)) = ((s + (un c).length : Nat) : Int) := by unfold wrap64; omega
    have g : ¬ ((s + (un c).length : Nat) : Int) ≤ n := by omega
    simp only [Option.bind_some, w, w2, g, if_false]
    exact ih e (i + (enc c).length) (s + (un c).length) (by omega) (by omega) (by omega) (by rw [← List.drop_drop, hd]; simp)
theorem refOff_in {l : List Int} (hb : isBytes l) (hs : l.length ≤ 140737488351232) {n : Int} {b cs r : List Int} (h : Text b cs r) : r = [] → ∀ (i s : Nat), i ≤ l.length → s ≤ 2 * i → (s : Int) ≤ n → l.drop i = b →
    Ev (fun k => colophonref02_Offset.l0 k l n (i : Int) (s : Int) (i : Int)) (((i + (encs (cs.take (many cs (n - (s : Int))))).length : Nat) : Int), 0) := by
  induction h with
  | done =>
    intro _ i s hi hs2 hn hd
    have : l.length ≤ i := List.drop_eq_nil_iff.mp hd
    refine Ev.step (f := fun _ => some ((i : Int), 0)) (fun k => by simp only [colophonref02_Offset.l0]; rw [if_neg (by omega)]) ?_
    simp [many, encs_nil]; exact Ev.now _
  | stop r hr he => intro e; exact absurd e hr
  | step c b cs r hc hT ih =>
    intro e i s hi hs2 hn hd
    have hp := enc_pos c
    have hu := un_enc hc
    have hl : l.length - i = (enc c).length + b.length := by rw [← List.length_drop, hd]; simp
    have D := refDecode_in (l := l) (i := (i : Int)) (by omega) (by omega) hb
    rw [Int.toNat_natCast, hd, dec_enc hc] at D
    refine Ev.step (refOff_head (by omega)) (Ev.bind D ?_)
    rw [refUnits hc]
    have w : wrap64 ((i : Int) + ((enc c).length : Int)) = ((i + (enc c).length : Nat) : Int) := by unfold wrap64; omega
    have w2 : wrap64 ((s : Int) + ((un c).length : Int)) = ((s + (un c).length : Nat) : Int) := by unfold wrap64; omega
    have hd2 : l.drop (i + (enc c).length) = b := by rw [← List.drop_drop, hd]; simp
    simp only [Option.bind_some, w, w2]
    by_cases g : ((s + (un c).length : Nat) : Int) ≤ n
    · simp only [g, if_true]
      have I := ih e (i + (enc c).length) (s + (un c).length) (by omega) (by omega) g hd2
      have e0 : many (c :: cs) (n - (s : Int)) = many cs (n - ((s + (un c).length : Nat) : Int)) + 1 := by
        show (if ((un c).length : Int) > n - (s : Int) then 0 else 1 + many cs (n - (s : Int) - ((un c).length : Int))) = _
        rw [if_neg (by omega), show n - (s : Int) - ((un c).length : Int) = n - ((s + (un c).length : Nat) : Int) by omega]; omega
      rw [e0, List.take_succ_cons, encs_cons, List.length_append, ← Nat.add_assoc]
      exact I
    · simp only [g, if_false]
      have e0 : many (c :: cs) (n - (s : Int)) = 0 := by
        show (if ((un c).length : Int) > n - (s : Int) then 0 else 1 + many cs (n - (s : Int) - ((un c).length : Int))) = _
        rw [if_pos (by omega)]
      rw [e0, List.take_zero, encs_nil, List.length_nil, Nat.add_zero]
      exact refOff_over hb hs hT e (i + (enc c).length) (s + (un c).length) (by omega) (by omega) (by omega) hd2
theorem refOffset_eq {b cs r : List Int} (h : Text b cs r) (hb : isBytes b) (hs : b.length ≤ 140737488351232) {n : Int} : Ev (fun k => colophonref02_Offset.f k b n) (offs cs r n) := by
  unfold colophonref02_Offset.f offs
  refine Ev.bind (refCheck_eq h hb hs) ?_
  by_cases he : err r = 0
  · simp only [he, if_true]
    by_cases h0 : n < 0
    · simp only [h0, if_true]; exact Ev.now _
    · simp only [h0, if_false]
      have := refOff_in (n := n) hb hs h ((err_zero h).mp he) 0 0 (by omega) (by omega) (by omega) rfl
      simpa using this
  · simp only [he, if_false]; exact Ev.now _

/-! Text. -/
theorem refText_step {l acc : List Int} {i c : Int} (hc0 : 0 ≤ c ∧ c ≤ 1114111) (k : Nat) (hi : 0 ≤ i ∧ i ≤ 70368744177660) : colophonref02_Text.j1 (k + 1) l acc i c false = if isCh c then (if acc.length + (enc c).length < 211106232532992 then colophonref02_Text.l0 k l (acc ++ enc c) (i + 1) else none) else some ([], 10) := by
  simp only [colophonref02_Text.j1, Bool.false_eq_true, if_false]
  rw [refEncode c ⟨by omega, by omega⟩, show wrap64 (i + 1) = i + 1 by unfold wrap64; omega]
  by_cases h : isCh c
  · rw [encode_ch h, if_pos h]; simp only [Option.bind_some, if_true]
  · rw [encode_no h, if_neg h]; rfl
theorem refText_loop {l : List Int} (hl : isUnits l) (hs : l.length ≤ 70368744177660) (d : Nat) : ∀ (i : Nat) (acc : List Int), i + d = l.length → acc.length ≤ 3 * i →
    Ev (fun k => colophonref02_Text.l0 k l acc (i : Int)) (match chars (l.drop i) with | some cs => (acc ++ encs cs, 0) | none => ([], 10)) := by
  have strong : ∀ e : Nat, ∀ (i : Nat) (acc : List Int), i ≤ l.length → l.length - i ≤ e → acc.length ≤ 3 * i →
    Ev (fun k => colophonref02_Text.l0 k l acc (i : Int)) (match chars (l.drop i) with | some cs => (acc ++ encs cs, 0) | none => ([], 10)) := by
    intro e
    induction e with
    | zero =>
      intro i acc hi he ha
      have : l.drop i = [] := by rw [List.drop_eq_nil_iff]; omega
      rw [this]
      refine Ev.step (f := fun _ => some (acc, 0)) (fun k => by simp only [colophonref02_Text.l0]; rw [if_neg (by omega)]) ?_
      simp [chars, encs_nil]; exact Ev.now _
    | succ e ih =>
      intro i acc hi he ha
      by_cases hlt : i < l.length
      · have hd := drop_cons hlt
        obtain ⟨a, hae⟩ : ∃ a, a = l.getD i 0 := ⟨_, rfl⟩
        rw [← hae] at hd
        have har := hl a (by have : a ∈ l.drop i := by rw [hd]; simp
                             exact List.mem_of_mem_drop this)
        have ra : rd l (i : Int) = a := by simp [rd, hae]
        have wa : wrap64 (rd l (i : Int)) = a := by rw [ra]; unfold wrap64; omega
        have wi : wrap64 ((i : Int) + 1) = ((i + 1 : Nat) : Int) := by unfold wrap64; omega
        have p1 : (i : Int) < (l.length : Int) := by omega
        have p2 : (0 : Int) ≤ (i : Int) := by omega
        have ie : (i : Int) + 1 = ((i + 1 : Nat) : Int) := by omega
        -- one unit alone
        have alone : ¬ (55296 ≤ a ∧ a < 57344) → Ev (fun k => colophonref02_Text.j1 k l acc (i : Int) a false) (match chars (l.drop i) with | some cs => (acc ++ encs cs, 0) | none => ([], 10)) := by
          intro hr
          have hc : isCh a := by unfold isCh; omega
          have hl3 : (enc a).length ≤ 3 := by have := enc_len hc; omega
          rw [hd, chars_one hr]
          have I := ih (i + 1) (acc ++ enc a) (by omega) (by omega) (by rw [List.length_append]; omega)
          refine Ev.step (f := fun k => colophonref02_Text.l0 k l (acc ++ enc a) ((i + 1 : Nat) : Int)) (fun k => ?_) ?_
          · rw [refText_step (by omega) k (by omega), if_pos hc, if_pos (by omega), ie]
          · cases ht : chars (l.drop (i + 1)) with
            | none => rw [ht] at I; exact I
            | some ds =>
              rw [ht] at I
              simp only [Option.map_some, encs_cons]
              simp only [List.append_assoc] at I
              exact I
        have bad : (55296 ≤ a ∧ a < 57344) → chars (l.drop i) = none → Ev (fun k => colophonref02_Text.j1 k l acc (i : Int) a false) (match chars (l.drop i) with | some cs => (acc ++ encs cs, 0) | none => ([], 10)) := by
          intro hr hn
          have hc : ¬ isCh a := by unfold isCh; omega
          rw [hn]
          refine Ev.step (f := fun _ => some ([], 10)) (fun k => ?_) (Ev.now _)
          rw [refText_step (by omega) k (by omega), if_neg hc]
        by_cases h1 : 55296 ≤ a ∧ a < 56320
        · by_cases hlt2 : i + 1 < l.length
          · have hd2 := drop_cons hlt2
            obtain ⟨b, hbe⟩ : ∃ b, b = l.getD (i + 1) 0 := ⟨_, rfl⟩
            rw [← hbe] at hd2
            have hbr := hl b (by have : b ∈ l.drop (i + 1) := by rw [hd2]; simp
                                 exact List.mem_of_mem_drop this)
            have rb : rd l ((i + 1 : Nat) : Int) = b := by simp [rd, hbe]
            have wb : wrap64 b = b := by unfold wrap64; omega
            have head : ∀ k, colophonref02_Text.l0 (k + 1) l acc (i : Int) = colophonref02_Text.j1 k l acc (i : Int) a (decide (56320 ≤ b ∧ b < 57344)) := by
              intro k
              simp only [colophonref02_Text.l0]
              rw [if_pos p1, if_pos p2, wa, if_pos (by omega), if_pos (by omega), wi, if_pos (by omega), if_pos (by omega), rb]
              by_cases h2 : b ≥ 56320
              · rw [if_pos h2]
                congr 1
                rw [Bool.eq_iff_iff, decide_eq_true_iff, decide_eq_true_iff]; omega
              · rw [if_neg h2]
                congr 1
                symm
                rw [decide_eq_false_iff_not]; omega
            refine Ev.step head ?_
            by_cases h2 : 56320 ≤ b ∧ b < 57344
            · rw [decide_eq_true h2, hd, hd2, chars_pair h1 h2]
              obtain ⟨c, hcd⟩ : ∃ c, c = 65536 + (a - 55296) * 1024 + (b - 56320) := ⟨_, rfl⟩
              have hc : isCh c := by unfold isCh; omega
              have hp := enc_pos c
              have ec : wrap64 ((wrap64 ((wrap64 (65536 + (wrap64 ((wrap64 (a - 55296)) * 1024)))) + b)) - 56320) = c := by
                rw [w64 (x := a - 55296) (by omega) (by omega), w64 (x := (a - 55296) * 1024) (by omega) (by omega), w64 (x := 65536 + (a - 55296) * 1024) (by omega) (by omega), w64 (x := 65536 + (a - 55296) * 1024 + b) (by omega) (by omega)]
                unfold wrap64; omega
              rw [← hcd]
              have I := ih (i + 2) (acc ++ enc c) (by omega) (by omega) (by rw [List.length_append]; omega)
              refine Ev.step (f := fun k => colophonref02_Text.l0 k l (acc ++ enc c) ((i + 2 : Nat) : Int)) (fun k => ?_) ?_
              · simp only [colophonref02_Text.j1, if_true]
                rw [wi, if_pos (by omega), if_pos (by omega), rb, wb, ec, refEncode c (by unfold isCh at hc; omega), encode_ch hc]
                simp only [Option.bind_some, if_true]
                rw [if_pos (by omega), show wrap64 (((i + 1 : Nat) : Int) + 1) = ((i + 2 : Nat) : Int) by unfold wrap64; omega]
              · cases ht : chars (l.drop (i + 2)) with
                | none => rw [ht] at I; exact I
                | some ds =>
                  rw [ht] at I
                  simp only [Option.map_some, encs_cons]
                  simp only [List.append_assoc] at I
                  exact I
            · rw [decide_eq_false h2]
              refine bad (by omega) ?_
              rw [hd, hd2]
              exact chars_none_hi h1 (fun x t' e => by injection e with e1 e2; subst e1; exact h2)
          · refine Ev.step (f := fun k => colophonref02_Text.j1 k l acc (i : Int) a false) (fun k => ?_) (bad (by omega) ?_)
            · simp only [colophonref02_Text.l0]
              rw [if_pos p1, if_pos p2, wa, if_pos (by omega), if_pos (by omega), wi, if_neg (by omega)]
            · have : l.drop (i + 1) = [] := by rw [List.drop_eq_nil_iff]; omega
              rw [hd, this]
              exact chars_none_hi h1 (by simp)
        · have head : ∀ k, colophonref02_Text.l0 (k + 1) l acc (i : Int) = colophonref02_Text.j1 k l acc (i : Int) a false := by
            intro k
            simp only [colophonref02_Text.l0]
            rw [if_pos p1, if_pos p2, wa]
            by_cases h2 : a ≥ 55296
            · rw [if_pos h2, if_neg (by omega)]
            · rw [if_neg h2]
          refine Ev.step head ?_
          by_cases hr : 55296 ≤ a ∧ a < 57344
          · refine bad hr ?_
            rw [hd]
            exact chars_lo (by omega)
          · exact alone hr
      · have : l.drop i = [] := by rw [List.drop_eq_nil_iff]; omega
        rw [this]
        refine Ev.step (f := fun _ => some (acc, 0)) (fun k => by simp only [colophonref02_Text.l0]; rw [if_neg (by omega)]) ?_
        simp [chars, encs_nil]; exact Ev.now _
  intro i acc hi ha
  exact strong d i acc (by omega) (by omega) ha
end Go.Proofs.Ytifmnjobapegeab.Pure
