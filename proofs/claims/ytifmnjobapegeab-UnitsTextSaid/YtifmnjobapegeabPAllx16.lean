-- Written by a program of this session (wip/tools/hand_print.py), with functions given by hand.
import Derived.Test.YtifmnjobapegeabPAllx0
namespace Go.Proofs.Ytifmnjobapegeab.PAll
open Go.RowKit Go.Proofs.YtifmnjobapegeabW.PrintWords Go.Proofs.YtifmnjobapegeabW.PrintLast Go.Proofs.YtifmnjobapegeabW.PrintMore
attribute [local go_sem] max2_int min2_int max_two min_two max_three min_three max_four min_four   -- for this text's walks alone
set_option linter.unusedVariables false
set_option linter.unusedSimpArgs false

/-! ### runes_Encode: function 32 -/
theorem enc_reps (W : World) (base : Nat) (ok : Nat → Prop) : ∀ xs : List Int, Reps ((Kd.int .u8).M W base ok) 1 xs (xs.map (Value.int .u8))
  | [] => Reps.none _ _
  | x :: xs => Reps.one (show Kd.M (Kd.int .u8) W base ok x [.int .u8 x] from rfl) (enc_reps W base ok xs)

theorem enc_lit (W : World) (base : Nat) (hbase : base ≤ W.heap.size) (xs : List Int) (hm : xs.length ≤ 9223372036854775807) (cs : List Value) (hcs : xs.map (Value.int .u8) = cs) :
    Kd.R (Kd.int .u8) 5 (W.alloc (.cells cs.toArray 5)) base (fun _ => True) (.slice (some ⟨W.heap.size, 0, none⟩) xs.length xs.length) xs := by
  subst hcs
  refine ⟨fun _ _ => trivial, xs.map (Value.int .u8), ?_, ?_⟩
  · have h2 := World.ownsRow_lit (base := base) (e := 5) (size := 1) W (xs.map (Value.int .u8)).toArray xs.length hbase (by simpa [maxLen] using hm) (by simp)
    have h3 : (xs.map (Value.int .u8)).toArray.toList = xs.map (Value.int .u8) := by simp
    rw [h3] at h2
    exact h2
  · exact enc_reps _ _ _ xs

theorem enc_next0 (b : Nat) (c : Int) (w : World) (hc : w.cell? ⟨b, 0, none⟩ = some (.int .i64 c)) (_h0 : 0 ≤ c) (_h1 : c ≤ 1114111) :
    Calls Try.prog 37 #[.int .i64 0, .pointer (some ⟨b, 0, none⟩)] w fun e w' => e = .returned (.int .u8 (128 + c % 64)) ∧ w' = w := by
  go_enter Try.func37, Try.ntmps37
  go_wp2
  go_ret
  exact ⟨rfl, rfl⟩
theorem enc_next1 (b : Nat) (c : Int) (w : World) (hc : w.cell? ⟨b, 0, none⟩ = some (.int .i64 c)) (_h0 : 0 ≤ c) (_h1 : c ≤ 1114111) :
    Calls Try.prog 37 #[.int .i64 1, .pointer (some ⟨b, 0, none⟩)] w fun e w' => e = .returned (.int .u8 (128 + c / 64 % 64)) ∧ w' = w := by
  go_enter Try.func37, Try.ntmps37
  go_wp2
  go_ret
  exact ⟨rfl, rfl⟩
theorem enc_next2 (b : Nat) (c : Int) (w : World) (hc : w.cell? ⟨b, 0, none⟩ = some (.int .i64 c)) (_h0 : 0 ≤ c) (_h1 : c ≤ 1114111) :
    Calls Try.prog 37 #[.int .i64 2, .pointer (some ⟨b, 0, none⟩)] w fun e w' => e = .returned (.int .u8 (128 + c / 4096 % 64)) ∧ w' = w := by
  go_enter Try.func37, Try.ntmps37
  go_wp2
  go_ret
  exact ⟨rfl, rfl⟩

def nxt (c n : Int) : Int := if n = 0 then 128 + c % 64 else if n = 1 then 128 + c / 64 % 64 else 128 + c / 4096 % 64
theorem enc_next (b : Nat) (c n : Int) (w : World) (hc : w.cell? ⟨b, 0, none⟩ = some (.int .i64 c)) (h0 : 0 ≤ c) (h1 : c ≤ 1114111) (hn : 0 ≤ n) (hn2 : n ≤ 2) :
    Calls Try.prog 37 #[.int .i64 n, .pointer (some ⟨b, 0, none⟩)] w fun e w' => e = .returned (.int .u8 (nxt c n)) ∧ w' = w := by
  by_cases e0 : n = 0
  · subst e0
    exact enc_next0 b c w hc h0 h1
  · by_cases e1 : n = 1
    · subst e1
      exact enc_next1 b c w hc h0 h1
    · obtain rfl : n = 2 := by omega
      exact enc_next2 b c w hc h0 h1

theorem enc_bad (c : Int) (w : World) (h : c < 0 ∨ 1114111 < c ∨ (55296 ≤ c ∧ c ≤ 57343)) :
    Calls Try.prog 32 #[.int .i64 c] w fun e w' => e = .returned (.tuple #[.slice none 0 0, .int .i64 10]) ∧ Below w.heap.size w w' := by
  have hmf : ∀ (fn : Fn) (first cap : Array Value) (w : World), (Instr.makeFunc fn first cap).run Try.prog w = .ok (.func fn first cap) w := fun _ _ _ _ => rfl
  by_cases h1 : c < 0
  · have d1 : decide (c < 0) = true := decide_eq_true h1
    clear h h1
    go_enter Try.func32, Try.ntmps32
    go_wp2
    go_ret2
    exact ⟨rfl, (Below.refl _ _).alloc (Nat.le_refl _) _⟩
  · have d1 : decide (c < 0) = false := decide_eq_false h1
    by_cases h2 : 1114111 < c
    · have d2 : decide (1114111 < c) = true := decide_eq_true h2
      clear h h1 h2
      go_enter Try.func32, Try.ntmps32
      go_wp2
      go_ret2
      exact ⟨rfl, (Below.refl _ _).alloc (Nat.le_refl _) _⟩
    · have d2 : decide (1114111 < c) = false := decide_eq_false h2
      have e : c / 2048 = 27 := by omega
      clear h
      go_enter Try.func32, Try.ntmps32
      go_wp2
      go_ret2
      exact ⟨rfl, (Below.refl _ _).alloc (Nat.le_refl _) _⟩

theorem enc_one (c : Int) (w : World) (h0 : 0 ≤ c) (h1 : c < 128) :
    Calls Try.prog 32 #[.int .i64 c] w fun e w' => ∃ v : Value, e = .returned (.tuple #[v, .int .i64 0]) ∧ Kd.R (Kd.int .u8) 5 w' w.heap.size (fun _ => True) v [c] ∧ Below w.heap.size w w' := by
  have hmf : ∀ (fn : Fn) (first cap : Array Value) (w : World), (Instr.makeFunc fn first cap).run Try.prog w = .ok (.func fn first cap) w := fun _ _ _ _ => rfl
  have d1 : decide (c < 0) = false := decide_eq_false (by omega)
  have d2 : decide (1114111 < c) = false := decide_eq_false (by omega)
  have d3 : (c / 2048 == 27) = false := by rw [beq_eq_false_iff_ne]; omega
  have d4 : decide (c < 128) = true := decide_eq_true h1
  go_enter Try.func32, Try.ntmps32
  go_wp2
  go_ret2
  refine ⟨_, rfl, ?_, by repeat (first | exact Below.refl _ _ | apply below_alloc | apply below_drew1)⟩
  have L := enc_lit (w.alloc (.cells #[.int .i64 c] 3)) w.heap.size (by simp) [c] (by simp) _ rfl
  simpa using L


theorem enc_or192 (y : Int) (h0 : 0 ≤ y) (h1 : y < 32) : bits BinOp.or IntKind.u8 192 (IntKind.u8.wrap y) = 192 + y := by
  have e : IntKind.u8.wrap y = y := by rw [IntKind.wrap_u8]; omega
  rw [e]
  exact u8_or192 y h0 h1
theorem enc_or224 (y : Int) (h0 : 0 ≤ y) (h1 : y < 16) : bits BinOp.or IntKind.u8 224 (IntKind.u8.wrap y) = 224 + y := by
  have e : IntKind.u8.wrap y = y := by rw [IntKind.wrap_u8]; omega
  rw [e]
  exact u8_or224 y h0 h1
theorem enc_or240 (y : Int) (h0 : 0 ≤ y) (h1 : y < 8) : bits BinOp.or IntKind.u8 240 (IntKind.u8.wrap y) = 240 + y := by
  have e : IntKind.u8.wrap y = y := by rw [IntKind.wrap_u8]; omega
  rw [e]
  exact u8_or240 y h0 h1

set_option maxHeartbeats 8000000 in
theorem enc_two (c : Int) (w : World) (h0 : 128 ≤ c) (h1 : c < 2048) :
    Calls Try.prog 32 #[.int .i64 c] w fun e w' => ∃ v : Value, e = .returned (.tuple #[v, .int .i64 0]) ∧ Kd.R (Kd.int .u8) 5 w' w.heap.size (fun _ => True) v [192 + c / 64, 128 + c % 64] ∧ Below w.heap.size w w' := by
  have hmf : ∀ (fn : Fn) (first cap : Array Value) (w : World), (Instr.makeFunc fn first cap).run Try.prog w = .ok (.func fn first cap) w := fun _ _ _ _ => rfl
  have d1 : decide (c < 0) = false := decide_eq_false (by omega)
  have d2 : decide (1114111 < c) = false := decide_eq_false (by omega)
  have d3 : (c / 2048 == 27) = false := by rw [beq_eq_false_iff_ne]; omega
  have d4 : decide (c < 128) = false := decide_eq_false (by omega)
  have d5 : decide (c < 2048) = true := decide_eq_true (by omega)
  have g0 : 0 ≤ c := by omega
  have g1 : c ≤ 1114111 := by omega
  have b1 := enc_or192 (c / 64) (by omega) (by omega)
  go_enter Try.func32, Try.ntmps32
  go_wp2
  go_region_with (go_at_call 37; refine (enc_next _ c _ _ (by go_simp) g0 g1 (by omega) (by omega)).mono ?_; rintro e w' ⟨rfl, rfl⟩)
  all_goals
    go_wp2
    go_ret2
    refine ⟨.slice (some ⟨w.heap.size + 1, 0, none⟩) 2 2, rfl, ?_, by repeat (first | exact Below.refl _ _ | apply below_alloc | apply below_drew1)⟩
    have L := enc_lit (w.alloc (.cells #[.int .i64 c] 3)) w.heap.size (by simp) [192 + c / 64, 128 + c % 64] (by simp) _ rfl
    refine Kd.R_drew ?_
    simpa [b1, nxt] using L

set_option maxHeartbeats 8000000 in
theorem enc_three (c : Int) (w : World) (h0 : 2048 ≤ c) (h1 : c < 65536) (h2 : c < 55296 ∨ 57343 < c) :
    Calls Try.prog 32 #[.int .i64 c] w fun e w' => ∃ v : Value, e = .returned (.tuple #[v, .int .i64 0]) ∧ Kd.R (Kd.int .u8) 5 w' w.heap.size (fun _ => True) v [224 + c / 4096, 128 + c / 64 % 64, 128 + c % 64] ∧ Below w.heap.size w w' := by
  have hmf : ∀ (fn : Fn) (first cap : Array Value) (w : World), (Instr.makeFunc fn first cap).run Try.prog w = .ok (.func fn first cap) w := fun _ _ _ _ => rfl
  have d1 : decide (c < 0) = false := decide_eq_false (by omega)
  have d2 : decide (1114111 < c) = false := decide_eq_false (by omega)
  have d3 : (c / 2048 == 27) = false := by rw [beq_eq_false_iff_ne]; omega
  have d4 : decide (c < 128) = false := decide_eq_false (by omega)
  have d5 : decide (c < 2048) = false := decide_eq_false (by omega)
  have d6 : decide (c < 65536) = true := decide_eq_true (by omega)
  have g0 : 0 ≤ c := by omega
  have g1 : c ≤ 1114111 := by omega
  have b1 := enc_or224 (c / 4096) (by omega) (by omega)
  clear h2
  go_enter Try.func32, Try.ntmps32
  go_wp2
  go_region_with (go_at_call 37; refine (enc_next _ c _ _ (by go_simp) g0 g1 (by omega) (by omega)).mono ?_; rintro e w' ⟨rfl, rfl⟩)
  all_goals
    go_wp2
    go_ret2
    refine ⟨.slice (some ⟨w.heap.size + 1, 0, none⟩) 3 3, rfl, ?_, by repeat (first | exact Below.refl _ _ | apply below_alloc | apply below_drew1)⟩
    have L := enc_lit (w.alloc (.cells #[.int .i64 c] 3)) w.heap.size (by simp) [224 + c / 4096, 128 + c / 64 % 64, 128 + c % 64] (by simp) _ rfl
    refine Kd.R_drew ?_
    simpa [b1, nxt] using L

set_option maxHeartbeats 8000000 in
theorem enc_four (c : Int) (w : World) (h0 : 65536 ≤ c) (g1 : c ≤ 1114111) :
    Calls Try.prog 32 #[.int .i64 c] w fun e w' => ∃ v : Value, e = .returned (.tuple #[v, .int .i64 0]) ∧ Kd.R (Kd.int .u8) 5 w' w.heap.size (fun _ => True) v [240 + c / 262144, 128 + c / 4096 % 64, 128 + c / 64 % 64, 128 + c % 64] ∧ Below w.heap.size w w' := by
  have hmf : ∀ (fn : Fn) (first cap : Array Value) (w : World), (Instr.makeFunc fn first cap).run Try.prog w = .ok (.func fn first cap) w := fun _ _ _ _ => rfl
  have d1 : decide (c < 0) = false := decide_eq_false (by omega)
  have d2 : decide (1114111 < c) = false := decide_eq_false (by omega)
  have d3 : (c / 2048 == 27) = false := by rw [beq_eq_false_iff_ne]; omega
  have d4 : decide (c < 128) = false := decide_eq_false (by omega)
  have d5 : decide (c < 2048) = false := decide_eq_false (by omega)
  have d6 : decide (c < 65536) = false := decide_eq_false (by omega)
  have g0 : 0 ≤ c := by omega
  have b1 := enc_or240 (c / 262144) (by omega) (by omega)
  go_enter Try.func32, Try.ntmps32
  go_wp2
  go_region_with (go_at_call 37; refine (enc_next _ c _ _ (by go_simp) g0 g1 (by omega) (by omega)).mono ?_; rintro e w' ⟨rfl, rfl⟩)
  all_goals
    go_wp2
    go_ret2
    refine ⟨.slice (some ⟨w.heap.size + 1, 0, none⟩) 4 4, rfl, ?_, by repeat (first | exact Below.refl _ _ | apply below_alloc | apply below_drew1)⟩
    have L := enc_lit (w.alloc (.cells #[.int .i64 c] 3)) w.heap.size (by simp) [240 + c / 262144, 128 + c / 4096 % 64, 128 + c / 64 % 64, 128 + c % 64] (by simp) _ rfl
    refine Kd.R_drew ?_
    simpa [b1, nxt] using L

def runes_Encode.f (a0 : Int) : Option (List Int × Int) := if a0 < 0 ∨ 1114111 < a0 ∨ (55296 ≤ a0 ∧ a0 ≤ 57343) then some ([], 10) else if a0 < 128 then some ([a0], 0) else if a0 < 2048 then some ([192 + a0 / 64, 128 + a0 % 64], 0) else if a0 < 65536 then some ([224 + a0 / 4096, 128 + a0 / 64 % 64, 128 + a0 % 64], 0) else some ([240 + a0 / 262144, 128 + a0 / 4096 % 64, 128 + a0 / 64 % 64, 128 + a0 % 64], 0)
theorem runes_Encode.calls (a0 : Int) (r1 : List Int) (r2 : Int) (w : World) (h : runes_Encode.f a0 = some (r1, r2)) :
    Calls Try.prog 32 #[.int .i64 a0] w fun e w' => ∃ v0_ : Value, e = .returned (.tuple #[v0_, .int .i64 r2]) ∧ Kd.R (Kd.int .u8) 5 w' w.heap.size (fun _ => True) v0_ r1 ∧ Below w.heap.size w w' := by
  unfold runes_Encode.f at h
  by_cases h1 : a0 < 0 ∨ 1114111 < a0 ∨ (55296 ≤ a0 ∧ a0 ≤ 57343)
  · rw [if_pos h1] at h
    simp only [Option.some.injEq, Prod.mk.injEq] at h
    obtain ⟨rfl, rfl⟩ := h
    refine (enc_bad a0 w h1).mono ?_
    rintro e w' ⟨rfl, hb⟩
    exact ⟨_, rfl, Kd.R_nil _ _ _ _ _, hb⟩
  · rw [if_neg h1] at h
    by_cases h2 : a0 < 128
    · rw [if_pos h2] at h
      simp only [Option.some.injEq, Prod.mk.injEq] at h
      obtain ⟨rfl, rfl⟩ := h
      exact enc_one a0 w (by omega) h2
    · rw [if_neg h2] at h
      by_cases h3 : a0 < 2048
      · rw [if_pos h3] at h
        simp only [Option.some.injEq, Prod.mk.injEq] at h
        obtain ⟨rfl, rfl⟩ := h
        exact enc_two a0 w (by omega) h3
      · rw [if_neg h3] at h
        by_cases h4 : a0 < 65536
        · rw [if_pos h4] at h
          simp only [Option.some.injEq, Prod.mk.injEq] at h
          obtain ⟨rfl, rfl⟩ := h
          exact enc_three a0 w (by omega) h4 (by omega)
        · rw [if_neg h4] at h
          simp only [Option.some.injEq, Prod.mk.injEq] at h
          obtain ⟨rfl, rfl⟩ := h
          exact enc_four a0 w (by omega) (by omega)

end Go.Proofs.Ytifmnjobapegeab.PAll
