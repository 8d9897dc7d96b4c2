/- Plain words on characters, their bytes, and what stands at the begin of bytes. -/
import Derived.Test.YtifmnjobapegeabPAllx16
import Derived.Test.YtifmnjobapegeabPAllx9
import Derived.Test.YtifmnjobapegeabPAllx7
import Derived.Test.YtifmnjobapegeabPAllx3
import Derived.Test.YtifmnjobapegeabPAllx1
namespace Go.Proofs.Ytifmnjobapegeab.Pure
open Go.RowKit Go.Proofs.Ytifmnjobapegeab.PAll Go.Proofs.YtifmnjobapegeabW.PrintWords Go.Proofs.YtifmnjobapegeabW.PrintLast

/-- A character. -/
def isCh (c : Int) : Prop := 0 ≤ c ∧ c ≤ 1114111 ∧ (c < 55296 ∨ 57343 < c)
instance (c : Int) : Decidable (isCh c) := inferInstanceAs (Decidable (_ ∧ _ ∧ _))
/-- Its bytes. -/
def enc (c : Int) : List Int :=
  if c < 128 then [c] else if c < 2048 then [192 + c / 64, 128 + c % 64]
  else if c < 65536 then [224 + c / 4096, 128 + c / 64 % 64, 128 + c % 64]
  else [240 + c / 262144, 128 + c / 4096 % 64, 128 + c / 64 % 64, 128 + c % 64]

theorem enc1 {c : Int} (h : c < 128) : enc c = [c] := by unfold enc; rw [if_pos h]
theorem enc2 {c : Int} (h : 128 ≤ c) (h1 : c < 2048) : enc c = [192 + c / 64, 128 + c % 64] := by
  unfold enc; rw [if_neg (by omega), if_pos h1]
theorem enc3 {c : Int} (h : 2048 ≤ c) (h1 : c < 65536) : enc c = [224 + c / 4096, 128 + c / 64 % 64, 128 + c % 64] := by
  unfold enc; rw [if_neg (by omega), if_neg (by omega), if_pos h1]
theorem enc4 {c : Int} (h : 65536 ≤ c) : enc c = [240 + c / 262144, 128 + c / 4096 % 64, 128 + c / 64 % 64, 128 + c % 64] := by
  unfold enc; rw [if_neg (by omega), if_neg (by omega), if_neg (by omega)]

theorem enc_cases (c : Int) : (c < 128 ∧ enc c = [c]) ∨ (128 ≤ c ∧ c < 2048 ∧ enc c = [192 + c / 64, 128 + c % 64]) ∨
    (2048 ≤ c ∧ c < 65536 ∧ enc c = [224 + c / 4096, 128 + c / 64 % 64, 128 + c % 64]) ∨
    (65536 ≤ c ∧ enc c = [240 + c / 262144, 128 + c / 4096 % 64, 128 + c / 64 % 64, 128 + c % 64]) := by
  by_cases h1 : c < 128
  · exact .inl ⟨h1, enc1 h1⟩
  · by_cases h2 : c < 2048
    · exact .inr (.inl ⟨by omega, h2, enc2 (by omega) h2⟩)
    · by_cases h3 : c < 65536
      · exact .inr (.inr (.inl ⟨by omega, h3, enc3 (by omega) h3⟩))
      · exact .inr (.inr (.inr ⟨by omega, enc4 (by omega)⟩))

theorem enc_pos (c : Int) : 1 ≤ (enc c).length ∧ (enc c).length ≤ 4 := by
  rcases enc_cases c with ⟨_, h⟩ | ⟨_, _, h⟩ | ⟨_, _, h⟩ | ⟨_, h⟩ <;> rw [h] <;> simp

theorem encode_ch {c : Int} (h : isCh c) : runes_Encode.f c = some (enc c, 0) := by
  unfold isCh at h
  unfold runes_Encode.f enc
  rw [if_neg (by omega)]
  split
  · rfl
  · split
    · rfl
    · split <;> rfl
theorem encode_no {c : Int} (h : ¬ isCh c) : runes_Encode.f c = some ([], 10) := by
  unfold isCh at h
  unfold runes_Encode.f
  rw [if_pos (by omega)]

/-- Bytes. -/
def isBytes (l : List Int) : Prop := ∀ x ∈ l, 0 ≤ x ∧ x ≤ 255

/-- What stands at the begin of bytes: the character, its bytes' number, the error. -/
def dec : List Int → Int × Int × Int
  | [] => (0, 0, 9)
  | b :: t =>
    if b < 128 then (b, 1, 0)
    else if b < 194 then (0, 0, 10)
    else if b < 224 then
      match t with
      | [] => (0, 0, 3)
      | x :: _ => if x < 128 ∨ 191 < x then (0, 0, 10) else ((b % 32) * 64 + x % 64, 2, 0)
    else if b < 240 then
      match t with
      | [] => (0, 0, 3)
      | x :: t => if x < (if b = 224 then 160 else 128) ∨ (if b = 237 then 159 else 191) < x then (0, 0, 10) else
        match t with
        | [] => (0, 0, 3)
        | y :: _ => if y < 128 ∨ 191 < y then (0, 0, 10) else (((b % 16) * 64 + x % 64) * 64 + y % 64, 3, 0)
    else if b ≤ 244 then
      match t with
      | [] => (0, 0, 3)
      | x :: t => if x < (if b = 240 then 144 else 128) ∨ (if b = 244 then 143 else 191) < x then (0, 0, 10) else
        match t with
        | [] => (0, 0, 3)
        | y :: t => if y < 128 ∨ 191 < y then (0, 0, 10) else
          match t with
          | [] => (0, 0, 3)
          | z :: _ => if z < 128 ∨ 191 < z then (0, 0, 10) else ((((b % 8) * 64 + x % 64) * 64 + y % 64) * 64 + z % 64, 4, 0)
    else (0, 0, 10)

/-! The loop of the program's decoder. -/
theorem or6 (x y : Int) (hx : 0 ≤ x) (hx1 : x < 4294967296) (hy : 0 ≤ y) (hy1 : y < 64) : bits .or .i64 (wrap64 (x * 64)) (wrap64 y) = x * 64 + y := by
  have e1 : wrap64 (x * 64) = x * 64 := by unfold wrap64; omega
  have e2 : wrap64 y = y := by unfold wrap64; omega
  rw [e1, e2]
  exact bits_join .i64 40 (by decide) (fun n h0 h1 => by rw [IntKind.wrap_i64]; omega) 6 (x * 64) y (by omega) (by omega) (by omega) hy (by omega) (by omega)

theorem l0_done {r : List Int} {c s lo hi i : Int} (h : ¬ i < s) : Ev (fun k => runes_Decode.l0 k c s r lo hi i) (c, s, 0) :=
  Ev.step (f := fun _ => some (c, s, 0)) (fun k => by simp only [runes_Decode.l0]; rw [if_neg h]) (Ev.now _)
theorem l0_trunc {r : List Int} {c s lo hi i : Int} (h : i < s) (e : i = (r.length : Int)) : Ev (fun k => runes_Decode.l0 k c s r lo hi i) (0, 0, 3) :=
  Ev.step (f := fun _ => some (0, 0, 3)) (fun k => by simp only [runes_Decode.l0]; rw [if_pos h, if_pos e]) (Ev.now _)
theorem l0_bad {r : List Int} {c s lo hi i : Int} (h : i < s) (h0 : 0 ≤ i) (e : i < (r.length : Int)) (b : rd r i < lo ∨ hi < rd r i) : Ev (fun k => runes_Decode.l0 k c s r lo hi i) (0, 0, 10) :=
  Ev.step (f := fun _ => some (0, 0, 10)) (fun k => by
    simp only [runes_Decode.l0]; rw [if_pos h, if_neg (by omega), if_pos h0, if_pos e]
    by_cases b1 : rd r i < lo
    · rw [if_pos b1]
    · rw [if_neg b1, if_pos (by omega)]) (Ev.now _)
theorem l0_next {r : List Int} {c s lo hi i : Int} {R : Int × Int × Int} (h : i < s) (h0 : 0 ≤ i) (hi4 : i < 10) (e : i < (r.length : Int)) (b0 : lo ≤ rd r i) (b1 : rd r i ≤ hi) (hlo : 128 ≤ lo) (hhi : hi ≤ 191) (hc0 : 0 ≤ c) (hc1 : c < 4294967296)
    (H : Ev (fun k => runes_Decode.l0 k (c * 64 + rd r i % 64) s r 128 191 (i + 1)) R) : Ev (fun k => runes_Decode.l0 k c s r lo hi i) R :=
  Ev.step (f := fun k => runes_Decode.l0 k (c * 64 + rd r i % 64) s r 128 191 (i + 1)) (fun k => by
    simp only [runes_Decode.l0]
    rw [if_pos h, if_neg (by omega), if_pos h0, if_pos e, if_neg (by omega), if_neg (by omega), u8_and63 _ (by omega) (by omega), or6 _ _ hc0 hc1 (by omega) (by omega), show wrap64 (i + 1) = i + 1 by unfold wrap64; omega]) H

theorem form_j0t (x a b : Int) : Ev (fun k => runes_form.j0 k x a b true) (0, 0, 0, 0) :=
  Ev.step (f := fun _ => some (0, 0, 0, 0)) (fun k => by simp only [runes_form.j0, if_true]) (Ev.now _)
/-- The form of a first byte. -/
def form (b : Int) : Int × Int × Int × Int :=
  if b < 128 then (1, 127, 128, 191) else if b < 194 then (0, 0, 0, 0) else if b > 244 then (0, 0, 0, 0) else if b < 224 then (2, 31, 128, 191)
  else if b < 240 then (3, 15, if b = 224 then 160 else 128, if b = 237 then 159 else 191) else (4, 7, if b = 240 then 144 else 128, if b = 244 then 143 else 191)
theorem form_eq (b : Int) : Ev (fun k => runes_form.f k b) (form b) := by
  unfold runes_form.f form
  by_cases h1 : b < 128
  · simp only [h1, if_true]; exact Ev.now _
  · by_cases h2 : b < 194
    · simp only [h1, h2, if_true, if_false]; exact form_j0t _ _ _
    · by_cases h3 : b > 244
      · simp only [h1, h2, h3, if_true, if_false, decide_true]; exact form_j0t _ _ _
      · simp only [h1, h2, h3, if_false, decide_false]
        refine Ev.step (f := fun _ => some (if b < 224 then (2, 31, 128, 191)
          else if b < 240 then (3, 15, if b = 224 then 160 else 128, if b = 237 then 159 else 191) else (4, 7, if b = 240 then 144 else 128, if b = 244 then 143 else 191))) (fun k => ?_) (Ev.now _)
        simp only [runes_form.j0]
        (repeat' split) <;> first | rfl | omega | (exfalso; simp at *; done)

theorem rd0 (b : Int) (t : List Int) : rd (b :: t) 0 = b := rfl
theorem rd1 (b x : Int) (t : List Int) : rd (b :: x :: t) 1 = x := rfl
theorem rd2 (b x y : Int) (t : List Int) : rd (b :: x :: y :: t) 2 = y := rfl
theorem rd3 (b x y z : Int) (t : List Int) : rd (b :: x :: y :: z :: t) 3 = z := rfl

/-- The loop behind a first byte, by its form. -/
theorem loop_eq (r : List Int) (hr : r ≠ []) (hb : isBytes r) (h0 : (form (rd r 0)).1 ≠ 0) :
    Ev (fun k => runes_Decode.l0 k (wrap64 (Go.bits .and .u8 (rd r 0) (form (rd r 0)).2.1)) (form (rd r 0)).1 r (form (rd r 0)).2.2.1 (form (rd r 0)).2.2.2 1) (dec r) := by
  obtain ⟨b, t, rfl⟩ : ∃ b t, r = b :: t := by
    cases r with
    | nil => exact absurd rfl hr
    | cons b t => exact ⟨b, t, rfl⟩
  have hbb := hb b (by simp)
  rw [rd0] at h0 ⊢
  unfold form at h0 ⊢
  unfold dec
  by_cases h1 : b < 128
  · simp only [h1, if_true]
    have e127 : bits .and .u8 b 127 = b := by
      have := bits_mask .u8 8 (by decide) wraps_u8 7 (by decide) b (by omega) (by omega)
      have e : (2 : Int) ^ 7 - 1 = 127 := by decide
      have e2 : (2 : Int) ^ 7 = 128 := by decide
      rw [e, e2] at this
      rw [this]; omega
    rw [e127, show wrap64 b = b by unfold wrap64; omega]
    exact l0_done (by omega)
  · by_cases h2 : b < 194
    · simp [h1, h2] at h0
    · by_cases h3 : b > 244
      · simp [h1, h2, h3] at h0
      · have h3' : b ≤ 244 := by omega
        by_cases h4 : b < 224
        · simp only [h1, h2, h3, h4, if_true, if_false]
          rw [u8_and31 _ (by omega) (by omega), show wrap64 (b % 32) = b % 32 by unfold wrap64; omega]
          cases t with
          | nil => exact l0_trunc (by omega) (by simp)
          | cons x t =>
            have hxb := hb x (by simp)
            by_cases hx : x < 128 ∨ 191 < x
            · simp only [hx, if_true]
              exact l0_bad (by omega) (by omega) (by simp; omega) (by rw [rd1]; omega)
            · simp only [hx, if_false]
              refine l0_next (by omega) (by omega) (by omega) (by simp; omega) (by rw [rd1]; omega) (by rw [rd1]; omega) (by omega) (by omega) (by omega) (by omega) ?_
              rw [rd1]
              exact l0_done (by omega)
        · by_cases h5 : b < 240
          · simp only [h1, h2, h3, h4, h5, if_true, if_false]
            rw [u8_and15 _ (by omega) (by omega), show wrap64 (b % 16) = b % 16 by unfold wrap64; omega]
            obtain ⟨lo, hlo⟩ : ∃ lo, lo = (if b = 224 then (160 : Int) else 128) := ⟨_, rfl⟩
            obtain ⟨hi, hhi⟩ : ∃ hi, hi = (if b = 237 then (159 : Int) else 191) := ⟨_, rfl⟩
            rw [← hlo, ← hhi]
            have L : 128 ≤ lo := by rw [hlo]; split <;> omega
            have H : hi ≤ 191 := by rw [hhi]; split <;> omega
            cases t with
            | nil => exact l0_trunc (by omega) (by simp)
            | cons x t =>
              have hxb := hb x (by simp)
              by_cases hx : x < lo ∨ hi < x
              · simp only [hx, if_true]
                exact l0_bad (by omega) (by omega) (by simp; omega) (by rw [rd1]; omega)
              · simp only [hx, if_false]
                refine l0_next (by omega) (by omega) (by omega) (by simp; omega) (by rw [rd1]; omega) (by rw [rd1]; omega) L H (by omega) (by omega) ?_
                rw [rd1]
                cases t with
                | nil => exact l0_trunc (by omega) (by simp)
                | cons y t =>
                  have hyb := hb y (by simp)
                  by_cases hy : y < 128 ∨ 191 < y
                  · simp only [hy, if_true]
                    exact l0_bad (by omega) (by omega) (by simp; omega) (by show rd (b :: x :: y :: t) 2 < 128 ∨ 191 < rd (b :: x :: y :: t) 2; rw [rd2]; omega)
                  · simp only [hy, if_false]
                    refine l0_next (by omega) (by omega) (by omega) (by simp; omega) (by show 128 ≤ rd (b :: x :: y :: t) 2; rw [rd2]; omega) (by show rd (b :: x :: y :: t) 2 ≤ 191; rw [rd2]; omega) (by omega) (by omega) (by omega) (by omega) ?_
                    show Ev (fun k => runes_Decode.l0 k (((b % 16) * 64 + x % 64) * 64 + rd (b :: x :: y :: t) 2 % 64) 3 (b :: x :: y :: t) 128 191 3) _
                    rw [rd2]
                    exact l0_done (by omega)
          · simp only [h1, h2, h3, h3', h4, h5, if_true, if_false]
            rw [u8_and7 _ (by omega) (by omega), show wrap64 (b % 8) = b % 8 by unfold wrap64; omega]
            obtain ⟨lo, hlo⟩ : ∃ lo, lo = (if b = 240 then (144 : Int) else 128) := ⟨_, rfl⟩
            obtain ⟨hi, hhi⟩ : ∃ hi, hi = (if b = 244 then (143 : Int) else 191) := ⟨_, rfl⟩
            rw [← hlo, ← hhi]
            have L : 128 ≤ lo := by rw [hlo]; split <;> omega
            have H : hi ≤ 191 := by rw [hhi]; split <;> omega
            cases t with
            | nil => exact l0_trunc (by omega) (by simp)
            | cons x t =>
              have hxb := hb x (by simp)
              by_cases hx : x < lo ∨ hi < x
              · simp only [hx, if_true]
                exact l0_bad (by omega) (by omega) (by simp; omega) (by rw [rd1]; omega)
              · simp only [hx, if_false]
                refine l0_next (by omega) (by omega) (by omega) (by simp; omega) (by rw [rd1]; omega) (by rw [rd1]; omega) L H (by omega) (by omega) ?_
                rw [rd1]
                cases t with
                | nil => exact l0_trunc (by omega) (by simp)
                | cons y t =>
                  have hyb := hb y (by simp)
                  by_cases hy : y < 128 ∨ 191 < y
                  · simp only [hy, if_true]
                    exact l0_bad (by omega) (by omega) (by simp; omega) (by show rd (b :: x :: y :: t) 2 < 128 ∨ 191 < rd (b :: x :: y :: t) 2; rw [rd2]; omega)
                  · simp only [hy, if_false]
                    refine l0_next (by omega) (by omega) (by omega) (by simp; omega) (by show 128 ≤ rd (b :: x :: y :: t) 2; rw [rd2]; omega) (by show rd (b :: x :: y :: t) 2 ≤ 191; rw [rd2]; omega) (by omega) (by omega) (by omega) (by omega) ?_
                    show Ev (fun k => runes_Decode.l0 k (((b % 8) * 64 + x % 64) * 64 + rd (b :: x :: y :: t) 2 % 64) 4 (b :: x :: y :: t) 128 191 3) _
                    rw [rd2]
                    cases t with
                    | nil => exact l0_trunc (by omega) (by simp)
                    | cons z t =>
                      have hzb := hb z (by simp)
                      by_cases hz : z < 128 ∨ 191 < z
                      · simp only [hz, if_true]
                        exact l0_bad (by omega) (by omega) (by simp; omega) (by rw [rd3]; omega)
                      · simp only [hz, if_false]
                        refine l0_next (by omega) (by omega) (by omega) (by simp; omega) (by rw [rd3]; omega) (by rw [rd3]; omega) (by omega) (by omega) (by omega) (by omega) ?_
                        rw [rd3]
                        exact l0_done (by omega)

theorem form_zero (r : List Int) (hr : r ≠ []) (h0 : (form (rd r 0)).1 = 0) : dec r = (0, 0, 10) := by
  obtain ⟨b, t, rfl⟩ : ∃ b t, r = b :: t := by
    cases r with
    | nil => exact absurd rfl hr
    | cons b t => exact ⟨b, t, rfl⟩
  rw [rd0] at h0
  unfold form at h0
  unfold dec
  by_cases h1 : b < 128
  · simp [h1] at h0
  · by_cases h2 : b < 194
    · simp only [h1, h2, if_true, if_false]
    · by_cases h3 : b > 244
      · have h4 : ¬ b < 224 := by omega
        have h5 : ¬ b < 240 := by omega
        have h6 : ¬ b ≤ 244 := by omega
        simp only [h1, h2, h4, h5, h6, if_false]
      · exfalso
        by_cases h4 : b < 224
        · simp [h1, h2, h3, h4] at h0
        · by_cases h5 : b < 240 <;> simp [h1, h2, h3, h4, h5] at h0

theorem decode_out {l : List Int} {i : Int} (h : i < 0 ∨ (l.length : Int) ≤ i) : Ev (fun k => runes_Decode.f k l i) (0, 0, 9) := by
  have J : Ev (fun k => runes_Decode.j0 k l i true) (0, 0, 9) := Ev.step (f := fun _ => some (0, 0, 9)) (fun k => by simp only [runes_Decode.j0, if_true]) (Ev.now _)
  unfold runes_Decode.f
  by_cases h1 : i < 0
  · simp only [h1, if_true]; exact J
  · have h2 : i ≥ (l.length : Int) := by omega
    simp only [h1, h2, if_false, decide_true]; exact J
theorem decode_in {l : List Int} {i : Int} (h0 : 0 ≤ i) (h1 : i < (l.length : Int)) (hb : isBytes l) : Ev (fun k => runes_Decode.f k l i) (dec (l.drop i.toNat)) := by
  have hd : isBytes (l.drop i.toNat) := fun x hx => hb x (List.mem_of_mem_drop hx)
  have hlen : (l.drop i.toNat).length = l.length - i.toNat := List.length_drop
  have hne : l.drop i.toNat ≠ [] := by intro e; rw [e] at hlen; simp at hlen; omega
  unfold runes_Decode.f
  have h2 : ¬ i < 0 := by omega
  have h3 : ¬ i ≥ (l.length : Int) := by omega
  simp only [h2, h3, if_false, decide_false]
  obtain ⟨r, hr⟩ : ∃ r, r = l.drop i.toNat := ⟨_, rfl⟩
  rw [← hr] at hd hne hlen ⊢
  have hp : 0 < (r.length : Int) := by omega
  have hstep : ∀ k, runes_Decode.j0 (k + 1) l i false = (runes_form.f k (rd r 0)).bind fun q => if q.1 = 0 then some (0, 0, 10) else runes_Decode.l0 k (wrap64 (Go.bits .and .u8 (rd r 0) q.2.1)) q.1 r q.2.2.1 q.2.2.2 1 := by
    intro k
    simp only [runes_Decode.j0, Bool.false_eq_true, if_false]
    rw [if_pos h0, if_pos (by omega), ← hr, if_pos hp]
  refine Ev.step hstep (Ev.bind (form_eq (rd r 0)) ?_)
  by_cases hz : (form (rd r 0)).1 = 0
  · simp only [hz, if_true]
    rw [form_zero r hne hz]
    exact Ev.now _
  · simp only [hz, if_false]
    exact loop_eq r hne hd hz

/-! Bytes against bytes. -/
theorem drop_cons {l : List Int} {n : Nat} (h : n < l.length) : l.drop n = l.getD n 0 :: l.drop (n + 1) := by
  rw [List.drop_eq_getElem_cons h]
  simp [List.getD, h]
theorem eqBytes_l0 (a b : List Int) (hl : a.length = b.length) (hs : a.length ≤ 1000000000000000) (d : Nat) : ∀ i : Nat, i + d = a.length →
    Ev (fun k => colophonref00_EqBytes.l0 k a b (i : Int)) (decide (a.drop i = b.drop i)) := by
  induction d with
  | zero =>
    intro i hi
    refine Ev.step (f := fun _ => some true) (fun k => ?_) ?_
    · simp only [colophonref00_EqBytes.l0]; rw [if_neg (by omega)]
    · rw [List.drop_of_length_le (by omega), List.drop_of_length_le (by omega)]; simp; exact Ev.now _
  | succ d ih =>
    intro i hi
    have ha : i < a.length := by omega
    have hb : i < b.length := by omega
    rw [drop_cons ha, drop_cons hb]
    have w1 : wrap64 ((i : Int) + 1) = ((i + 1 : Nat) : Int) := by unfold wrap64; omega
    by_cases e : a.getD i 0 = b.getD i 0
    · refine Ev.step (f := fun k => colophonref00_EqBytes.l0 k a b ((i + 1 : Nat) : Int)) (fun k => ?_) ?_
      · simp only [colophonref00_EqBytes.l0]
        rw [if_pos (by omega), if_pos (by omega), if_pos (by omega), if_pos (by simpa [rd] using e), w1]
      · have := ih (i + 1) (by omega)
        rw [e]
        simpa using this
    · refine Ev.step (f := fun _ => some false) (fun k => ?_) ?_
      · simp only [colophonref00_EqBytes.l0]
        rw [if_pos (by omega), if_pos (by omega), if_pos (by omega), if_neg (by simpa [rd] using e)]
      · have : ¬ (a.getD i 0 :: a.drop (i + 1) = b.getD i 0 :: b.drop (i + 1)) := by intro h; injection h; contradiction
        rw [decide_eq_false this]; exact Ev.now _
theorem eqBytes (a b : List Int) (hs : a.length ≤ 1000000000000000) : Ev (fun k => colophonref00_EqBytes.f k a b) (decide (a = b)) := by
  unfold colophonref00_EqBytes.f
  by_cases hl : (a.length : Int) = (b.length : Int)
  · simp only [hl, if_true]
    have := eqBytes_l0 a b (by omega) hs a.length 0 (by omega)
    simpa using this
  · simp only [hl, if_false]
    have : ¬ a = b := by intro e; rw [e] at hl; exact hl rfl
    rw [decide_eq_false this]; exact Ev.now _
theorem eqBytes_self (a : List Int) (hs : a.length ≤ 1000000000000000) : Ev (fun k => colophonref00_EqBytes.f k a a) true := by
  have := eqBytes a a hs
  simpa using this

theorem copy_eq (l : List Int) (h : l.length ≤ 140737488351232) : colophonref00_CopyBytes.f l = some l := by
  unfold colophonref00_CopyBytes.f
  rw [if_pos (by simp; omega)]; simp

theorem wf64 {a : Int} (h : (Lit.int .i64 a).wf = true) : -9223372036854775808 ≤ a ∧ a ≤ 9223372036854775807 := by
  simpa [Lit.wf, IntKind.min, IntKind.max, IntKind.signed, IntKind.bits] using h
theorem wf8 {a : Int} (h : (Lit.int .u8 a).wf = true) : 0 ≤ a ∧ a ≤ 255 := by
  simpa [Lit.wf, IntKind.min, IntKind.max, IntKind.signed, IntKind.bits] using h
theorem bytes_of {l : List Int} (h : ∀ x ∈ l, (Lit.int .u8 x).wf = true) : isBytes l := fun x hx => wf8 (h x hx)

/-! The document's Encode. -/
theorem tdiv_nn {a : Int} (h : 0 ≤ a) (n : Int) : Int.tdiv a n = a / n := Int.tdiv_eq_ediv_of_nonneg h
theorem tmod_nn {a : Int} (h : 0 ≤ a) (n : Int) : Int.tmod a n = a % n := Int.tmod_eq_emod_of_nonneg h
theorem refIs {c : Int} : colophonref01_Is.f c = some (decide (isCh c)) := by
  unfold colophonref01_Is.f
  by_cases h1 : c ≥ 0
  · by_cases h2 : c ≤ 1114111
    · by_cases h3 : c ≥ 55296
      · simp only [h1, h2, h3, if_true]
        by_cases h4 : c ≤ 57343
        · rw [decide_eq_true h4, decide_eq_false (show ¬ isCh c by unfold isCh; omega)]; rfl
        · rw [decide_eq_false h4, decide_eq_true (show isCh c by unfold isCh; omega)]; rfl
      · simp only [h1, h2, h3, if_true, if_false]
        rw [decide_eq_true (show isCh c by unfold isCh; omega)]; rfl
    · simp only [h1, h2, if_true, if_false]
      rw [decide_eq_false (show ¬ isCh c by unfold isCh; omega)]
  · simp only [h1, if_false]
    rw [decide_eq_false (show ¬ isCh c by unfold isCh; omega)]
theorem refEncode (c : Int) (_hw : -9223372036854775808 ≤ c ∧ c ≤ 9223372036854775807) : colophonref01_Encode.f c = runes_Encode.f c := by
  unfold colophonref01_Encode.f
  rw [refIs]
  simp only [Option.bind_some]
  by_cases h : isCh c
  · rw [encode_ch h, decide_eq_true h, if_pos rfl]
    unfold isCh at h
    have w : ∀ x : Int, 0 ≤ x → x ≤ 2000000 → wrap64 x = x := fun x h0 h1 => by unfold wrap64; omega
    have m : ∀ x : Int, 0 ≤ x → x < 256 → x % 256 = x := fun x h0 h1 => by omega
    simp only [tdiv_nn h.1, tmod_nn h.1]
    rcases enc_cases c with ⟨b, e⟩ | ⟨b0, b, e⟩ | ⟨b0, b, e⟩ | ⟨b, e⟩ <;> rw [e]
    · rw [if_pos b, m c (by omega) (by omega)]
    · rw [if_neg (by omega), if_pos b, w (c / 64) (by omega) (by omega), w _ (by omega) (by omega), w _ (by omega) (by omega), m _ (by omega) (by omega), m _ (by omega) (by omega)]
    · rw [if_neg (by omega), if_neg (by omega), if_pos b, w (c / 4096) (by omega) (by omega), w (c / 64) (by omega) (by omega), tmod_nn (by omega), w _ (by omega) (by omega), w _ (by omega) (by omega), w _ (by omega) (by omega), m _ (by omega) (by omega), m _ (by omega) (by omega), m _ (by omega) (by omega)]
    · rw [if_neg (by omega), if_neg (by omega), if_neg (by omega), w (c / 262144) (by omega) (by omega), w (c / 4096) (by omega) (by omega), w (c / 64) (by omega) (by omega), tmod_nn (by omega), tmod_nn (by omega), w _ (by omega) (by omega), w _ (by omega) (by omega), w _ (by omega) (by omega), w _ (by omega) (by omega), m _ (by omega) (by omega), m _ (by omega) (by omega), m _ (by omega) (by omega), m _ (by omega) (by omega)]
  · rw [encode_no h, decide_eq_false h]; rfl
end Go.Proofs.Ytifmnjobapegeab.Pure
