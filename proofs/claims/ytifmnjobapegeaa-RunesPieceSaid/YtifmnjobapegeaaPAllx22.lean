-- Written by a program of this session (wip/tools/hand_print.py), with functions given by hand.
import Derived.Test.YtifmnjobapegeaaPAllx0
import Derived.Test.YtifmnjobapegeaaPAllx1
import Derived.Test.YtifmnjobapegeaaPAllx6
import Derived.Test.YtifmnjobapegeaaPAllx8
import Derived.Test.YtifmnjobapegeaaPAllx20
import Derived.Test.YtifmnjobapegeaaPAllx21
namespace Go.Proofs.Ytifmnjobapegeaa.PAll
open Go.RowKit Go.Proofs.YtifmnjobapegeaaW.PrintWords Go.Proofs.YtifmnjobapegeaaW.PrintLast Go.Proofs.YtifmnjobapegeaaW.PrintMore
attribute [local go_sem] max2_int min2_int max_two min_two max_three min_three max_four min_four   -- for this text's walks alone
set_option linter.unusedVariables false
set_option linter.unusedSimpArgs false

/-! ### colophonlaw01_RunesPiece: function 9 -/
def colophonlaw01_RunesPiece.j0 : Nat → Int → List Int → Int → Bool → Option (Bool)
  | 0, _, _, _, _ => none
  | k + 1, x1, x5, x6, x28 => if x28 = true then (if x6 = 0 then (some ((x5.length : Int) == 1)) else (some true)) else ((colophonref00_Bring.f x1 (wrap64 ((x5.length : Int) - 1))).bind fun t291 => (if 0 ≤ (wrap64 (1 + t291)) then (if (wrap64 (1 + t291)) ≤ (x5.length : Int) then ((runes_Decode.f k (x5.take ((wrap64 (1 + t291)) : Int).toNat) 0).bind fun bt296 => ((runes_Decode.f k x5 (wrap64 (1 + t291))).bind fun bt299 => ((runes_Check.f k (x5.take ((wrap64 (1 + t291)) : Int).toNat)).bind fun bt306 => (if bt296.2.2 = 3 then (if bt299.2.2 = 10 then (if bt306.1 = 0 then (some (bt306.2 == 3)) else (some false)) else (some false)) else (some false))))) else (none)) else (none)))
def colophonlaw01_RunesPiece.f (k : Nat) (a0 : Int) (a1 : Int) : Option (Bool) := (colophonlaw01_works.f k).bind fun t286 => (if t286 = true then ((runes_Encode.f a0).bind fun bt287 => (if bt287.2 = 0 then (colophonlaw01_RunesPiece.j0 k a1 bt287.1 bt287.2 (decide ((bt287.1.length : Int) < 2))) else (colophonlaw01_RunesPiece.j0 k a1 bt287.1 bt287.2 true))) else (some false))
theorem colophonlaw01_RunesPiece.mono_l : ∀ k, (∀ y0 y1 y2 y3, LeO (colophonlaw01_RunesPiece.j0 k y0 y1 y2 y3) (colophonlaw01_RunesPiece.j0 (k + 1) y0 y1 y2 y3))
  | 0 => fun _ _ _ _ r h => by simp [colophonlaw01_RunesPiece.j0] at h
  | k + 1 => by
    have ih0 := colophonlaw01_RunesPiece.mono_l k
    · intro y0 y1 y2 y3
      unfold colophonlaw01_RunesPiece.j0
      repeat' first
      | (with_reducible exact ih0 _ _ _ _)
      | (with_reducible exact colophonlaw01_works.mono _)
      | (with_reducible exact runes_Check.mono _ _)
      | (with_reducible exact runes_Decode.mono _ _ _)
      | (with_reducible exact LeO.refl _)
      | (with_reducible exact LeO.none _)
      | (with_reducible refine LeO.ite ?_ ?_)
      | (with_reducible refine LeO.bind ?_ (fun _ => ?_))
      | exact ih0 _ _ _ _
      | exact colophonlaw01_works.mono _
      | exact runes_Check.mono _ _
      | exact runes_Decode.mono _ _ _
      | exact LeO.none _
      | refine LeO.ite ?_ ?_
      | refine LeO.bind ?_ (fun _ => ?_)
theorem colophonlaw01_RunesPiece.mono : ∀ a0 a1 k, LeO (colophonlaw01_RunesPiece.f k a0 a1) (colophonlaw01_RunesPiece.f (k + 1) a0 a1) := by
  intro a0 a1 k
  have ih0 := colophonlaw01_RunesPiece.mono_l k
  unfold colophonlaw01_RunesPiece.f
  repeat' first
      | (with_reducible exact ih0 _ _ _ _)
      | (with_reducible exact colophonlaw01_works.mono _)
      | (with_reducible exact runes_Check.mono _ _)
      | (with_reducible exact runes_Decode.mono _ _ _)
      | (with_reducible exact LeO.refl _)
      | (with_reducible exact LeO.none _)
      | (with_reducible refine LeO.ite ?_ ?_)
      | (with_reducible refine LeO.bind ?_ (fun _ => ?_))
      | exact ih0 _ _ _ _
      | exact colophonlaw01_works.mono _
      | exact runes_Check.mono _ _
      | exact runes_Decode.mono _ _ _
      | exact LeO.none _
      | refine LeO.ite ?_ ?_
      | refine LeO.bind ?_ (fun _ => ?_)
set_option maxHeartbeats 8000000 in
set_option maxRecDepth 100000 in
theorem colophonlaw01_RunesPiece.calls (k : Nat) (a0 : Int) (a1 : Int) (r : Bool) (w : World) (h : colophonlaw01_RunesPiece.f k a0 a1 = some r) :
    Calls Try.prog 9 #[.int .i64 a0, .int .i64 a1] w fun e w' => e = .returned (.bool r) ∧ Below w.heap.size w w' := by
  have HB := Aside0.mk (Below.refl w.heap.size w)
  have H : ((colophonlaw01_works.f k).bind fun t286 => (if t286 = true then ((runes_Encode.f a0).bind fun bt287 => (if bt287.2 = 0 then (colophonlaw01_RunesPiece.j0 k a1 bt287.1 bt287.2 (decide ((bt287.1.length : Int) < 2))) else (colophonlaw01_RunesPiece.j0 k a1 bt287.1 bt287.2 true))) else (some false))) = some r := h
  clear h
  replace H := Option.bind_eq_some_iff.mp H
  obtain ⟨t286, A30, H⟩ := H
  replace H : (if t286 = true then ((runes_Encode.f a0).bind fun bt287 => (if bt287.2 = 0 then (colophonlaw01_RunesPiece.j0 k a1 bt287.1 bt287.2 (decide ((bt287.1.length : Int) < 2))) else (colophonlaw01_RunesPiece.j0 k a1 bt287.1 bt287.2 true))) else (some false)) = some r := H
  have A3 := Aside0.mk A30
  clear A30
  by_cases c4 : t286 = true
  · subst c4
    have H1 : ((runes_Encode.f a0).bind fun bt287 => (if bt287.2 = 0 then (colophonlaw01_RunesPiece.j0 k a1 bt287.1 bt287.2 (decide ((bt287.1.length : Int) < 2))) else (colophonlaw01_RunesPiece.j0 k a1 bt287.1 bt287.2 true))) = some r := by rw [if_pos rfl] at H; exact H
    clear H
    have H := H1
    clear H1
    replace H := Option.bind_eq_some_iff.mp H
    obtain ⟨⟨t287, t288⟩, A50, H⟩ := H
    replace H : (if t288 = 0 then (colophonlaw01_RunesPiece.j0 k a1 t287 t288 (decide ((t287.length : Int) < 2))) else (colophonlaw01_RunesPiece.j0 k a1 t287 t288 true)) = some r := H
    have A5 := Aside0.mk A50
    clear A50
    have HC6 := Aside0.mk H
    clear H
    go_enter Try.func9, Try.ntmps9
    go_upto_region 4 with (first | ((with_reducible refine gate_callee (f := 18) rfl ?_); refine goesL_ (some 15) rfl rfl Try.func18 (by kernel_rfl) rfl #[] rfl (by (try simp only [List.map_toArray, List.map_cons, List.map_nil]); first | done | rfl | (simp only [List.length_drop, List.length_take]; rfl)) ?_; (with_reducible refine (colophonlaw01_works.calls k  true _ A3.out).mono ?_); rintro e w7 ⟨rfl, hb⟩; refine ⟨_, rfl, ?_⟩; have n0_ := Aside0.mk (below_step (by repeat (first | (with_reducible first | exact HB.out | apply below_alloc | apply pw_below_drewN | apply below_drew1) | exact HB.out)) hb); clear HB; have HB := n0_; clear n0_; (try clear hb); (try clear hb2); (try clear hk); (try clear hi)) | ((with_reducible refine gate_callee (f := 15) rfl ?_); refine goesL_ (some 19) rfl rfl Try.func15 (by kernel_rfl) rfl #[.int .i64 a0] rfl (by (try simp only [List.map_toArray, List.map_cons, List.map_nil]); first | done | rfl | (simp only [List.length_drop, List.length_take]; rfl)) ?_; (with_reducible refine (runes_Encode.calls a0 t287 t288 _ A5.out).mono ?_); rintro e w8 ⟨v289, rfl, ho0, hb⟩; refine ⟨_, rfl, ?_⟩; have n0_ := Aside0.mk (Kd.R_lower ho0 (below_size (by repeat (first | (with_reducible first | exact HB.out | apply below_alloc | apply pw_below_drewN | apply below_drew1) | exact HB.out)))); have n1_ := Aside0.mk (below_step (by repeat (first | (with_reducible first | exact HB.out | apply below_alloc | apply pw_below_drewN | apply below_drew1) | exact HB.out)) hb); clear HB; have HO290 := n0_; have HB := n1_; clear n0_ n1_; (try clear hb); (try clear hb2); (try clear hk); (try clear hi); (try clear ho0)))
    (try simp only [Act.put, List.setIfInBounds_toArray, List.set_cons_zero, List.set_cons_succ])
    go_cut [28] (fun v28 wc => ∃ (kq : Nat) (x28_5 : Bool), v28 = .bool x28_5 ∧ Aside0 (colophonlaw01_RunesPiece.j0 kq a1 t287 t288 x28_5 = some r) ∧ Aside0 (kq ≤ k) ∧ Aside0 (Kd.R (Kd.int .u8) 5 wc w.heap.size (fun _ => True) v289 t287) ∧ Aside0 (Below w.heap.size w wc))
    case first =>
      have H := HC6.out
      clear HC6
      by_cases c9 : t288 = 0
      · rw [if_pos c9] at H
        have c9b0 : (t288 == 0) = true := beq_iff_eq.mpr c9
        have c9b1 : (t288 != 0) = false := bne_eq_false_iff_eq.mpr c9
        clear c9
        (first | rw [c9b0] | (simp only [i64_w, i32_w]; rw [c9b0]) | skip)
        have H' := Aside0.mk H
        clear H
        obtain ⟨Ao10, co10, eo10⟩ := Kd.R_slice HO290.out
        subst eo10
        go_wp2
        go_meet
        case rel => exact ⟨_, (decide ((t287.length : Int) < 2)), (by first | rfl | (simp; done) | (simp [*]; done)), H', ⟨by first | omega | exact Nat.le_refl _⟩, ⟨by (with_reducible repeat (first | apply Kd.R_alloc | apply Kd.R_drewN | apply Kd.R_drew)); exact HO290.out⟩, ⟨by repeat (first | (with_reducible first | exact HB.out | apply below_alloc | apply pw_below_drewN | apply below_drew1) | exact HB.out)⟩⟩
      · rw [if_neg c9] at H
        have c9b0 : (t288 == 0) = false := beq_eq_false_iff_ne.mpr c9
        have c9b1 : (t288 != 0) = true := bne_iff_ne.mpr c9
        (first | rw [c9b0] | (simp only [i64_w, i32_w]; rw [c9b0]) | skip)
        have H' := Aside0.mk H
        clear H
        go_wp2
        go_meet
        case rel => exact ⟨_, (true), (by first | rfl | (simp; done) | (simp [*]; done)), H', ⟨by first | omega | exact Nat.le_refl _⟩, ⟨by (with_reducible repeat (first | apply Kd.R_alloc | apply Kd.R_drewN | apply Kd.R_drew)); exact HO290.out⟩, ⟨by repeat (first | (with_reducible first | exact HB.out | apply below_alloc | apply pw_below_drewN | apply below_drew1) | exact HB.out)⟩⟩
    case rest =>
      clear HC6
      try clear c1
      try clear p2
      try clear c4
      try clear c9
      try clear c9b0
      try clear c9b1
      obtain ⟨kq, x28_5, rfl, HA, HJ5, HO_5, HB⟩ := hcut
      cases kq with
      | zero => exact absurd HA.out (by simp [colophonlaw01_RunesPiece.j0])
      | succ kj5 =>
        have H := HA.out
        clear HA
        simp only [colophonlaw01_RunesPiece.j0] at H
        by_cases c11 : x28_5 = true
        · subst c11
          have H1 : (if t288 = 0 then (some ((t287.length : Int) == 1)) else (some true)) = some r := by rw [if_pos rfl] at H; exact H
          clear H
          have H := H1
          clear H1
          by_cases c12 : t288 = 0
          · rw [if_pos c12] at H
            have c12b0 : (t288 == 0) = true := beq_iff_eq.mpr c12
            have c12b1 : (t288 != 0) = false := bne_eq_false_iff_eq.mpr c12
            clear c12
            obtain rfl := Option.some.inj H
            obtain ⟨Ao13, co13, eo13⟩ := Kd.R_slice HO_5.out
            subst eo13
            go_wp2
            go_ret
            exact ⟨by first | rfl | (simp [errW_none, errW_some] <;> rfl) | (simp [*, errW_none, errW_some] <;> rfl), by repeat (first | (with_reducible first | exact HB.out | apply below_alloc | apply pw_below_drewN | apply below_drew1) | exact HB.out)⟩
          · rw [if_neg c12] at H
            have c12b0 : (t288 == 0) = false := beq_eq_false_iff_ne.mpr c12
            have c12b1 : (t288 != 0) = true := bne_iff_ne.mpr c12
            obtain rfl := Option.some.inj H
            go_wp2
            go_ret
            exact ⟨by first | rfl | (simp [errW_none, errW_some] <;> rfl) | (simp [*, errW_none, errW_some] <;> rfl), by repeat (first | (with_reducible first | exact HB.out | apply below_alloc | apply pw_below_drewN | apply below_drew1) | exact HB.out)⟩
        · replace c11 := Bool.eq_false_iff.mpr c11
          subst c11
          have H1 : ((colophonref00_Bring.f a1 (wrap64 ((t287.length : Int) - 1))).bind fun t291 => (if 0 ≤ (wrap64 (1 + t291)) then (if (wrap64 (1 + t291)) ≤ (t287.length : Int) then ((runes_Decode.f kj5 (t287.take ((wrap64 (1 + t291)) : Int).toNat) 0).bind fun bt296 => ((runes_Decode.f kj5 t287 (wrap64 (1 + t291))).bind fun bt299 => ((runes_Check.f kj5 (t287.take ((wrap64 (1 + t291)) : Int).toNat)).bind fun bt306 => (if bt296.2.2 = 3 then (if bt299.2.2 = 10 then (if bt306.1 = 0 then (some (bt306.2 == 3)) else (some false)) else (some false)) else (some false))))) else (none)) else (none))) = some r := by rw [if_neg (show ¬ (false = true) by decide)] at H; exact H
          clear H
          have H := H1
          clear H1
          replace H := Option.bind_eq_some_iff.mp H
          obtain ⟨t291, A140, H⟩ := H
          replace H : (if 0 ≤ (wrap64 (1 + t291)) then (if (wrap64 (1 + t291)) ≤ (t287.length : Int) then ((runes_Decode.f kj5 (t287.take ((wrap64 (1 + t291)) : Int).toNat) 0).bind fun bt296 => ((runes_Decode.f kj5 t287 (wrap64 (1 + t291))).bind fun bt299 => ((runes_Check.f kj5 (t287.take ((wrap64 (1 + t291)) : Int).toNat)).bind fun bt306 => (if bt296.2.2 = 3 then (if bt299.2.2 = 10 then (if bt306.1 = 0 then (some (bt306.2 == 3)) else (some false)) else (some false)) else (some false))))) else (none)) else (none)) = some r := H
          have A14 := Aside0.mk A140
          clear A140
          obtain ⟨ji15, hji15⟩ : ∃ j_ : Int, (wrap64 (1 + t291)) = j_ := ⟨_, rfl⟩
          replace H : (if 0 ≤ (ji15) then (if (ji15) ≤ (t287.length : Int) then ((runes_Decode.f kj5 (t287.take ((ji15) : Int).toNat) 0).bind fun bt296 => ((runes_Decode.f kj5 t287 (ji15)).bind fun bt299 => ((runes_Check.f kj5 (t287.take ((ji15) : Int).toNat)).bind fun bt306 => (if bt296.2.2 = 3 then (if bt299.2.2 = 10 then (if bt306.1 = 0 then (some (bt306.2 == 3)) else (some false)) else (some false)) else (some false))))) else (none)) else (none)) = some r := by first | (rw [hji15] at H; exact H) | (simp only [hji15] at H ⊢; exact H)
          (try rw [hji15] at A14)
          have hji15w : (IntKind.i64.wrap (1 + t291)) = ji15 := (i64_w _).trans hji15
          by_cases c16 : 0 ≤ (ji15)
          · rw [if_pos c16] at H
            have c16b0 := eq_true c16
            have c16b1 : decide (0 ≤ (ji15)) = true := decide_eq_true c16
            clear c16
            by_cases c17 : (ji15) ≤ (t287.length : Int)
            · rw [if_pos c17] at H
              have c17b0 := eq_true c17
              have c17b1 : decide ((ji15) ≤ (t287.length : Int)) = true := decide_eq_true c17
              clear c17
              obtain ⟨y292, hy292⟩ : ∃ y_ : List Int, y_ = (t287.take ((ji15) : Int).toNat) := ⟨_, rfl⟩
              replace H : ((runes_Decode.f kj5 y292 0).bind fun bt296 => ((runes_Decode.f kj5 t287 (ji15)).bind fun bt299 => ((runes_Check.f kj5 (t287.take ((ji15) : Int).toNat)).bind fun bt306 => (if bt296.2.2 = 3 then (if bt299.2.2 = 10 then (if bt306.1 = 0 then (some (bt306.2 == 3)) else (some false)) else (some false)) else (some false))))) = some r := by first | (rw [hy292]; with_reducible exact H) | (have H2_ := (Option.bind_some _ _).symm.trans H; rw [hy292]; with_reducible exact H2_) | (have H2_ := (Option.bind_some _ _).symm.trans H; with_reducible exact H2_) | with_reducible exact H | (rw [hy292]; exact H) | exact H
              have Ny292 := Aside0.mk hy292
              clear hy292
              replace H := Option.bind_eq_some_iff.mp H
              obtain ⟨⟨t296, t297, t298⟩, A180, H⟩ := H
              replace H : ((runes_Decode.f kj5 t287 (ji15)).bind fun bt299 => ((runes_Check.f kj5 (t287.take ((ji15) : Int).toNat)).bind fun bt306 => (if t298 = 3 then (if bt299.2.2 = 10 then (if bt306.1 = 0 then (some (bt306.2 == 3)) else (some false)) else (some false)) else (some false)))) = some r := H
              have A18 := Aside0.mk A180
              clear A180
              replace H := Option.bind_eq_some_iff.mp H
              obtain ⟨⟨t299, t300, t301⟩, A190, H⟩ := H
              replace H : ((runes_Check.f kj5 (t287.take ((ji15) : Int).toNat)).bind fun bt306 => (if t298 = 3 then (if t301 = 10 then (if bt306.1 = 0 then (some (bt306.2 == 3)) else (some false)) else (some false)) else (some false))) = some r := H
              have A19 := Aside0.mk A190
              clear A190
              have c20b0 := eq_true (of_decide_eq_true (by first | (with_reducible assumption) | assumption) : 0 ≤ (ji15))
              have c21b0 := eq_true (of_decide_eq_true (by first | (with_reducible assumption) | assumption) : (ji15) ≤ (t287.length : Int))
              obtain ⟨y302, hy302⟩ : ∃ y_ : List Int, y_ = (t287.take ((ji15) : Int).toNat) := ⟨_, rfl⟩
              replace H : ((runes_Check.f kj5 y302).bind fun bt306 => (if t298 = 3 then (if t301 = 10 then (if bt306.1 = 0 then (some (bt306.2 == 3)) else (some false)) else (some false)) else (some false))) = some r := by first | (rw [hy302]; with_reducible exact H) | (have H2_ := (Option.bind_some _ _).symm.trans H; rw [hy302]; with_reducible exact H2_) | (have H2_ := (Option.bind_some _ _).symm.trans H; with_reducible exact H2_) | with_reducible exact H | (rw [hy302]; exact H) | exact H
              have Ny302 := Aside0.mk hy302
              obtain rfl : y292 = y302 := Ny292.out.trans Ny302.out.symm
              clear hy302
              replace H := Option.bind_eq_some_iff.mp H
              obtain ⟨⟨t306, t307⟩, A220, H⟩ := H
              replace H : (if t298 = 3 then (if t301 = 10 then (if t306 = 0 then (some (t307 == 3)) else (some false)) else (some false)) else (some false)) = some r := H
              have A22 := Aside0.mk A220
              clear A220
              by_cases c23 : t298 = 3
              · rw [if_pos c23] at H
                have c23b0 : (t298 == 3) = true := beq_iff_eq.mpr c23
                have c23b1 : (t298 != 3) = false := bne_eq_false_iff_eq.mpr c23
                clear c23
                by_cases c24 : t301 = 10
                · rw [if_pos c24] at H
                  have c24b0 : (t301 == 10) = true := beq_iff_eq.mpr c24
                  have c24b1 : (t301 != 10) = false := bne_eq_false_iff_eq.mpr c24
                  clear c24
                  by_cases c25 : t306 = 0
                  · rw [if_pos c25] at H
                    have c25b0 : (t306 == 0) = true := beq_iff_eq.mpr c25
                    have c25b1 : (t306 != 0) = false := bne_eq_false_iff_eq.mpr c25
                    clear c25
                    obtain rfl := Option.some.inj H
                    obtain ⟨Ao26, co26, eo26⟩ := Kd.R_slice HO_5.out
                    subst eo26
                    go_wp2_with (first | ((with_reducible refine gate_callee (f := 23) rfl ?_); refine goesL_ (some 40) rfl rfl Try.func23 (by kernel_rfl) rfl #[.int .i64 a1, .int .i64 (wrap64 ((t287.length : Int) - 1))] rfl (by (try simp only [List.map_toArray, List.map_cons, List.map_nil]); first | done | rfl | (simp only [List.length_drop, List.length_take]; rfl)) ?_; (with_reducible refine (colophonref00_Bring.calls a1 (wrap64 ((t287.length : Int) - 1)) t291 _ A14.out).mono ?_); rintro e w' ⟨rfl, ⟨nd, rfl⟩⟩; refine ⟨_, rfl, ?_⟩; have q27 : ((ji15) : Int) ≤ ((t287.length : Int) : Int) := of_decide_eq_true (by first | (with_reducible assumption) | assumption); obtain ⟨i027, hi027, _, hsz27, _⟩ := info_parts info5; have hroom27 : t287.length ≤ co26 := (Kd.R_reads' HO_5.out).2.1; have hC27 : Kd.C (Kd.int .u8) _ Ao26 t287.length t287 := (Kd.R_reads' HO_5.out).2.2; have hcut27 := cut_to (P := Try.prog) 22 5 .i64 Try.underlying22 hi027 Ao26 t287.length co26 (ji15) (of_decide_eq_true (by first | (with_reducible assumption) | assumption)) q27 hroom27; have hr27 := Kd.C_take (m := ((ji15) : Int).toNat) hC27 (by omega); have hy27 : y292.length = ((ji15) : Int).toNat := (by rw [Ny292.out, List.length_take]; omega); rw [← Ny292.out] at hr27; rw [← hy27] at hcut27; have HR295 := Aside0.mk hr27; have HC295 := Aside0.mk (show y292.length ≤ co26 from by omega); clear hr27 hC27 hroom27 hi027 hsz27; have KY27 := Aside0.mk hy27; clear hy27; have KL27 := Aside0.mk (show ((ji15) : Int).toNat ≤ t287.length from by omega); replace q27 := eq_true q27) | ((with_reducible refine gate_callee (f := 20) rfl ?_); refine goesL_ (some 46) rfl rfl Try.func20 (by kernel_rfl) rfl #[.slice Ao26 y292.length co26, .int .i64 0] rfl (by (try simp only [List.map_toArray, List.map_cons, List.map_nil]); first | done | rfl | (simp only [List.length_drop, List.length_take]; rfl)) ?_; (with_reducible refine (runes_Decode.calls kj5 _ _ y292 0 t296 t297 t298 _ ?side1 ?side2 A18.out).mono ?_); (case side1 => repeat (first | exact (by repeat (first | (with_reducible exact HR295.out) | (with_reducible refine Kd.C_alloc ?_ _) | (with_reducible refine Kd.C_drewN ?_ _) | (with_reducible refine Kd.C_drew ?_) | exact HR295.out)) | (with_reducible refine Kd.C_alloc ?_ _) | (with_reducible refine Kd.C_drewN ?_ _) | (with_reducible refine Kd.C_drew ?_))); (case side2 => exact HC295.out); rintro e w' ⟨rfl, ⟨nd, rfl⟩⟩; refine ⟨_, rfl, ?_⟩) | ((with_reducible refine gate_callee (f := 20) rfl ?_); refine goesL_ (some 53) rfl rfl Try.func20 (by kernel_rfl) rfl #[.slice Ao26 t287.length co26, .int .i64 ji15] rfl (by (try simp only [List.map_toArray, List.map_cons, List.map_nil]); first | done | (simp only [hji15]; rfl) | rfl | (simp only [List.length_drop, List.length_take]; rfl)) ?_; (with_reducible refine (runes_Decode.calls kj5 _ _ t287 ji15 t299 t300 t301 _ ?side1 ?side2 A19.out).mono ?_); (case side1 => repeat (first | exact (Kd.R_reads' HO_5.out).2.2 | (with_reducible refine Kd.C_alloc ?_ _) | (with_reducible refine Kd.C_drewN ?_ _) | (with_reducible refine Kd.C_drew ?_))); (case side2 => exact (Kd.R_reads' HO_5.out).2.1); rintro e w' ⟨rfl, ⟨nd, rfl⟩⟩; refine ⟨_, rfl, ?_⟩; have q28 : ((ji15) : Int) ≤ ((t287.length : Int) : Int) := of_decide_eq_true (by first | (with_reducible assumption) | assumption); obtain ⟨i028, hi028, _, hsz28, _⟩ := info_parts info5; have hroom28 : t287.length ≤ co26 := (Kd.R_reads' HO_5.out).2.1; have hC28 : Kd.C (Kd.int .u8) _ Ao26 t287.length t287 := (Kd.R_reads' HO_5.out).2.2; have hcut28 := cut_to (P := Try.prog) 22 5 .i64 Try.underlying22 hi028 Ao26 t287.length co26 (ji15) (of_decide_eq_true (by first | (with_reducible assumption) | assumption)) q28 hroom28; have hr28 := Kd.C_take (m := ((ji15) : Int).toNat) hC28 (by omega); have hy28 : y292.length = ((ji15) : Int).toNat := (by rw [Ny302.out, List.length_take]; omega); rw [← Ny302.out] at hr28; rw [← hy28] at hcut28; have HR305 := Aside0.mk hr28; have HC305 := Aside0.mk (show y292.length ≤ co26 from by omega); clear hr28 hC28 hroom28 hi028 hsz28; have KY28 := Aside0.mk hy28; clear hy28; have KL28 := Aside0.mk (show ((ji15) : Int).toNat ≤ t287.length from by omega); replace q28 := eq_true q28) | ((with_reducible refine gate_callee (f := 24) rfl ?_); refine goesL_ (some 61) rfl rfl Try.func24 (by kernel_rfl) rfl #[.slice Ao26 y292.length co26] rfl (by (try simp only [List.map_toArray, List.map_cons, List.map_nil]); first | done | rfl | (simp only [List.length_drop, List.length_take]; rfl)) ?_; (with_reducible refine (runes_Check.calls kj5 _ _ y292 t306 t307 _ ?side1 ?side2 A22.out).mono ?_); (case side1 => repeat (first | exact (by repeat (first | (with_reducible exact HR305.out) | (with_reducible refine Kd.C_alloc ?_ _) | (with_reducible refine Kd.C_drewN ?_ _) | (with_reducible refine Kd.C_drew ?_) | exact HR305.out)) | (with_reducible refine Kd.C_alloc ?_ _) | (with_reducible refine Kd.C_drewN ?_ _) | (with_reducible refine Kd.C_drew ?_))); (case side2 => exact HC305.out); rintro e w' ⟨rfl, ⟨nd, rfl⟩⟩; refine ⟨_, rfl, ?_⟩))
                    go_ret
                    exact ⟨by first | rfl | (simp [errW_none, errW_some] <;> rfl) | (simp only [← hji15]; first | rfl | (simp [errW_none, errW_some] <;> rfl)) | (simp [*, errW_none, errW_some] <;> rfl), by repeat (first | (with_reducible first | exact HB.out | apply below_alloc | apply pw_below_drewN | apply below_drew1) | exact HB.out)⟩
                  · rw [if_neg c25] at H
                    have c25b0 : (t306 == 0) = false := beq_eq_false_iff_ne.mpr c25
                    have c25b1 : (t306 != 0) = true := bne_iff_ne.mpr c25
                    obtain rfl := Option.some.inj H
                    obtain ⟨Ao29, co29, eo29⟩ := Kd.R_slice HO_5.out
                    subst eo29
                    go_wp2_with (first | ((with_reducible refine gate_callee (f := 23) rfl ?_); refine goesL_ (some 40) rfl rfl Try.func23 (by kernel_rfl) rfl #[.int .i64 a1, .int .i64 (wrap64 ((t287.length : Int) - 1))] rfl (by (try simp only [List.map_toArray, List.map_cons, List.map_nil]); first | done | rfl | (simp only [List.length_drop, List.length_take]; rfl)) ?_; (with_reducible refine (colophonref00_Bring.calls a1 (wrap64 ((t287.length : Int) - 1)) t291 _ A14.out).mono ?_); rintro e w' ⟨rfl, ⟨nd, rfl⟩⟩; refine ⟨_, rfl, ?_⟩; have q30 : ((ji15) : Int) ≤ ((t287.length : Int) : Int) := of_decide_eq_true (by first | (with_reducible assumption) | assumption); obtain ⟨i030, hi030, _, hsz30, _⟩ := info_parts info5; have hroom30 : t287.length ≤ co29 := (Kd.R_reads' HO_5.out).2.1; have hC30 : Kd.C (Kd.int .u8) _ Ao29 t287.length t287 := (Kd.R_reads' HO_5.out).2.2; have hcut30 := cut_to (P := Try.prog) 22 5 .i64 Try.underlying22 hi030 Ao29 t287.length co29 (ji15) (of_decide_eq_true (by first | (with_reducible assumption) | assumption)) q30 hroom30; have hr30 := Kd.C_take (m := ((ji15) : Int).toNat) hC30 (by omega); have hy30 : y292.length = ((ji15) : Int).toNat := (by rw [Ny292.out, List.length_take]; omega); rw [← Ny292.out] at hr30; rw [← hy30] at hcut30; have HR295 := Aside0.mk hr30; have HC295 := Aside0.mk (show y292.length ≤ co29 from by omega); clear hr30 hC30 hroom30 hi030 hsz30; have KY30 := Aside0.mk hy30; clear hy30; have KL30 := Aside0.mk (show ((ji15) : Int).toNat ≤ t287.length from by omega); replace q30 := eq_true q30) | ((with_reducible refine gate_callee (f := 20) rfl ?_); refine goesL_ (some 46) rfl rfl Try.func20 (by kernel_rfl) rfl #[.slice Ao29 y292.length co29, .int .i64 0] rfl (by (try simp only [List.map_toArray, List.map_cons, List.map_nil]); first | done | rfl | (simp only [List.length_drop, List.length_take]; rfl)) ?_; (with_reducible refine (runes_Decode.calls kj5 _ _ y292 0 t296 t297 t298 _ ?side1 ?side2 A18.out).mono ?_); (case side1 => repeat (first | exact (by repeat (first | (with_reducible exact HR295.out) | (with_reducible refine Kd.C_alloc ?_ _) | (with_reducible refine Kd.C_drewN ?_ _) | (with_reducible refine Kd.C_drew ?_) | exact HR295.out)) | (with_reducible refine Kd.C_alloc ?_ _) | (with_reducible refine Kd.C_drewN ?_ _) | (with_reducible refine Kd.C_drew ?_))); (case side2 => exact HC295.out); rintro e w' ⟨rfl, ⟨nd, rfl⟩⟩; refine ⟨_, rfl, ?_⟩) | ((with_reducible refine gate_callee (f := 20) rfl ?_); refine goesL_ (some 53) rfl rfl Try.func20 (by kernel_rfl) rfl #[.slice Ao29 t287.length co29, .int .i64 ji15] rfl (by (try simp only [List.map_toArray, List.map_cons, List.map_nil]); first | done | (simp only [hji15]; rfl) | rfl | (simp only [List.length_drop, List.length_take]; rfl)) ?_; (with_reducible refine (runes_Decode.calls kj5 _ _ t287 ji15 t299 t300 t301 _ ?side1 ?side2 A19.out).mono ?_); (case side1 => repeat (first | exact (Kd.R_reads' HO_5.out).2.2 | (with_reducible refine Kd.C_alloc ?_ _) | (with_reducible refine Kd.C_drewN ?_ _) | (with_reducible refine Kd.C_drew ?_))); (case side2 => exact (Kd.R_reads' HO_5.out).2.1); rintro e w' ⟨rfl, ⟨nd, rfl⟩⟩; refine ⟨_, rfl, ?_⟩; have q31 : ((ji15) : Int) ≤ ((t287.length : Int) : Int) := of_decide_eq_true (by first | (with_reducible assumption) | assumption); obtain ⟨i031, hi031, _, hsz31, _⟩ := info_parts info5; have hroom31 : t287.length ≤ co29 := (Kd.R_reads' HO_5.out).2.1; have hC31 : Kd.C (Kd.int .u8) _ Ao29 t287.length t287 := (Kd.R_reads' HO_5.out).2.2; have hcut31 := cut_to (P := Try.prog) 22 5 .i64 Try.underlying22 hi031 Ao29 t287.length co29 (ji15) (of_decide_eq_true (by first | (with_reducible assumption) | assumption)) q31 hroom31; have hr31 := Kd.C_take (m := ((ji15) : Int).toNat) hC31 (by omega); have hy31 : y292.length = ((ji15) : Int).toNat := (by rw [Ny302.out, List.length_take]; omega); rw [← Ny302.out] at hr31; rw [← hy31] at hcut31; have HR305 := Aside0.mk hr31; have HC305 := Aside0.mk (show y292.length ≤ co29 from by omega); clear hr31 hC31 hroom31 hi031 hsz31; have KY31 := Aside0.mk hy31; clear hy31; have KL31 := Aside0.mk (show ((ji15) : Int).toNat ≤ t287.length from by omega); replace q31 := eq_true q31) | ((with_reducible refine gate_callee (f := 24) rfl ?_); refine goesL_ (some 61) rfl rfl Try.func24 (by kernel_rfl) rfl #[.slice Ao29 y292.length co29] rfl (by (try simp only [List.map_toArray, List.map_cons, List.map_nil]); first | done | rfl | (simp only [List.length_drop, List.length_take]; rfl)) ?_; (with_reducible refine (runes_Check.calls kj5 _ _ y292 t306 t307 _ ?side1 ?side2 A22.out).mono ?_); (case side1 => repeat (first | exact (by repeat (first | (with_reducible exact HR305.out) | (with_reducible refine Kd.C_alloc ?_ _) | (with_reducible refine Kd.C_drewN ?_ _) | (with_reducible refine Kd.C_drew ?_) | exact HR305.out)) | (with_reducible refine Kd.C_alloc ?_ _) | (with_reducible refine Kd.C_drewN ?_ _) | (with_reducible refine Kd.C_drew ?_))); (case side2 => exact HC305.out); rintro e w' ⟨rfl, ⟨nd, rfl⟩⟩; refine ⟨_, rfl, ?_⟩))
                    go_ret
                    exact ⟨by first | rfl | (simp [errW_none, errW_some] <;> rfl) | (simp only [← hji15]; first | rfl | (simp [errW_none, errW_some] <;> rfl)) | (simp [*, errW_none, errW_some] <;> rfl), by repeat (first | (with_reducible first | exact HB.out | apply below_alloc | apply pw_below_drewN | apply below_drew1) | exact HB.out)⟩
                · rw [if_neg c24] at H
                  have c24b0 : (t301 == 10) = false := beq_eq_false_iff_ne.mpr c24
                  have c24b1 : (t301 != 10) = true := bne_iff_ne.mpr c24
                  obtain rfl := Option.some.inj H
                  obtain ⟨Ao32, co32, eo32⟩ := Kd.R_slice HO_5.out
                  subst eo32
                  go_wp2_with (first | ((with_reducible refine gate_callee (f := 23) rfl ?_); refine goesL_ (some 40) rfl rfl Try.func23 (by kernel_rfl) rfl #[.int .i64 a1, .int .i64 (wrap64 ((t287.length : Int) - 1))] rfl (by (try simp only [List.map_toArray, List.map_cons, List.map_nil]); first | done | rfl | (simp only [List.length_drop, List.length_take]; rfl)) ?_; (with_reducible refine (colophonref00_Bring.calls a1 (wrap64 ((t287.length : Int) - 1)) t291 _ A14.out).mono ?_); rintro e w' ⟨rfl, ⟨nd, rfl⟩⟩; refine ⟨_, rfl, ?_⟩; have q33 : ((ji15) : Int) ≤ ((t287.length : Int) : Int) := of_decide_eq_true (by first | (with_reducible assumption) | assumption); obtain ⟨i033, hi033, _, hsz33, _⟩ := info_parts info5; have hroom33 : t287.length ≤ co32 := (Kd.R_reads' HO_5.out).2.1; have hC33 : Kd.C (Kd.int .u8) _ Ao32 t287.length t287 := (Kd.R_reads' HO_5.out).2.2; have hcut33 := cut_to (P := Try.prog) 22 5 .i64 Try.underlying22 hi033 Ao32 t287.length co32 (ji15) (of_decide_eq_true (by first | (with_reducible assumption) | assumption)) q33 hroom33; have hr33 := Kd.C_take (m := ((ji15) : Int).toNat) hC33 (by omega); have hy33 : y292.length = ((ji15) : Int).toNat := (by rw [Ny292.out, List.length_take]; omega); rw [← Ny292.out] at hr33; rw [← hy33] at hcut33; have HR295 := Aside0.mk hr33; have HC295 := Aside0.mk (show y292.length ≤ co32 from by omega); clear hr33 hC33 hroom33 hi033 hsz33; have KY33 := Aside0.mk hy33; clear hy33; have KL33 := Aside0.mk (show ((ji15) : Int).toNat ≤ t287.length from by omega); replace q33 := eq_true q33) | ((with_reducible refine gate_callee (f := 20) rfl ?_); refine goesL_ (some 46) rfl rfl Try.func20 (by kernel_rfl) rfl #[.slice Ao32 y292.length co32, .int .i64 0] rfl (by (try simp only [List.map_toArray, List.map_cons, List.map_nil]); first | done | rfl | (simp only [List.length_drop, List.length_take]; rfl)) ?_; (with_reducible refine (runes_Decode.calls kj5 _ _ y292 0 t296 t297 t298 _ ?side1 ?side2 A18.out).mono ?_); (case side1 => repeat (first | exact (by repeat (first | (with_reducible exact HR295.out) | (with_reducible refine Kd.C_alloc ?_ _) | (with_reducible refine Kd.C_drewN ?_ _) | (with_reducible refine Kd.C_drew ?_) | exact HR295.out)) | (with_reducible refine Kd.C_alloc ?_ _) | (with_reducible refine Kd.C_drewN ?_ _) | (with_reducible refine Kd.C_drew ?_))); (case side2 => exact HC295.out); rintro e w' ⟨rfl, ⟨nd, rfl⟩⟩; refine ⟨_, rfl, ?_⟩) | ((with_reducible refine gate_callee (f := 20) rfl ?_); refine goesL_ (some 53) rfl rfl Try.func20 (by kernel_rfl) rfl #[.slice Ao32 t287.length co32, .int .i64 ji15] rfl (by (try simp only [List.map_toArray, List.map_cons, List.map_nil]); first | done | (simp only [hji15]; rfl) | rfl | (simp only [List.length_drop, List.length_take]; rfl)) ?_; (with_reducible refine (runes_Decode.calls kj5 _ _ t287 ji15 t299 t300 t301 _ ?side1 ?side2 A19.out).mono ?_); (case side1 => repeat (first | exact (Kd.R_reads' HO_5.out).2.2 | (with_reducible refine Kd.C_alloc ?_ _) | (with_reducible refine Kd.C_drewN ?_ _) | (with_reducible refine Kd.C_drew ?_))); (case side2 => exact (Kd.R_reads' HO_5.out).2.1); rintro e w' ⟨rfl, ⟨nd, rfl⟩⟩; refine ⟨_, rfl, ?_⟩; have q34 : ((ji15) : Int) ≤ ((t287.length : Int) : Int) := of_decide_eq_true (by first | (with_reducible assumption) | assumption); obtain ⟨i034, hi034, _, hsz34, _⟩ := info_parts info5; have hroom34 : t287.length ≤ co32 := (Kd.R_reads' HO_5.out).2.1; have hC34 : Kd.C (Kd.int .u8) _ Ao32 t287.length t287 := (Kd.R_reads' HO_5.out).2.2; have hcut34 := cut_to (P := Try.prog) 22 5 .i64 Try.underlying22 hi034 Ao32 t287.length co32 (ji15) (of_decide_eq_true (by first | (with_reducible assumption) | assumption)) q34 hroom34; have hr34 := Kd.C_take (m := ((ji15) : Int).toNat) hC34 (by omega); have hy34 : y292.length = ((ji15) : Int).toNat := (by rw [Ny302.out, List.length_take]; omega); rw [← Ny302.out] at hr34; rw [← hy34] at hcut34; have HR305 := Aside0.mk hr34; have HC305 := Aside0.mk (show y292.length ≤ co32 from by omega); clear hr34 hC34 hroom34 hi034 hsz34; have KY34 := Aside0.mk hy34; clear hy34; have KL34 := Aside0.mk (show ((ji15) : Int).toNat ≤ t287.length from by omega); replace q34 := eq_true q34) | ((with_reducible refine gate_callee (f := 24) rfl ?_); refine goesL_ (some 61) rfl rfl Try.func24 (by kernel_rfl) rfl #[.slice Ao32 y292.length co32] rfl (by (try simp only [List.map_toArray, List.map_cons, List.map_nil]); first | done | rfl | (simp only [List.length_drop, List.length_take]; rfl)) ?_; (with_reducible refine (runes_Check.calls kj5 _ _ y292 t306 t307 _ ?side1 ?side2 A22.out).mono ?_); (case side1 => repeat (first | exact (by repeat (first | (with_reducible exact HR305.out) | (with_reducible refine Kd.C_alloc ?_ _) | (with_reducible refine Kd.C_drewN ?_ _) | (with_reducible refine Kd.C_drew ?_) | exact HR305.out)) | (with_reducible refine Kd.C_alloc ?_ _) | (with_reducible refine Kd.C_drewN ?_ _) | (with_reducible refine Kd.C_drew ?_))); (case side2 => exact HC305.out); rintro e w' ⟨rfl, ⟨nd, rfl⟩⟩; refine ⟨_, rfl, ?_⟩))
                  go_ret
                  exact ⟨by first | rfl | (simp [errW_none, errW_some] <;> rfl) | (simp only [← hji15]; first | rfl | (simp [errW_none, errW_some] <;> rfl)) | (simp [*, errW_none, errW_some] <;> rfl), by repeat (first | (with_reducible first | exact HB.out | apply below_alloc | apply pw_below_drewN | apply below_drew1) | exact HB.out)⟩
              · rw [if_neg c23] at H
                have c23b0 : (t298 == 3) = false := beq_eq_false_iff_ne.mpr c23
                have c23b1 : (t298 != 3) = true := bne_iff_ne.mpr c23
                obtain rfl := Option.some.inj H
                obtain ⟨Ao35, co35, eo35⟩ := Kd.R_slice HO_5.out
                subst eo35
                go_wp2_with (first | ((with_reducible refine gate_callee (f := 23) rfl ?_); refine goesL_ (some 40) rfl rfl Try.func23 (by kernel_rfl) rfl #[.int .i64 a1, .int .i64 (wrap64 ((t287.length : Int) - 1))] rfl (by (try simp only [List.map_toArray, List.map_cons, List.map_nil]); first | done | rfl | (simp only [List.length_drop, List.length_take]; rfl)) ?_; (with_reducible refine (colophonref00_Bring.calls a1 (wrap64 ((t287.length : Int) - 1)) t291 _ A14.out).mono ?_); rintro e w' ⟨rfl, ⟨nd, rfl⟩⟩; refine ⟨_, rfl, ?_⟩; have q36 : ((ji15) : Int) ≤ ((t287.length : Int) : Int) := of_decide_eq_true (by first | (with_reducible assumption) | assumption); obtain ⟨i036, hi036, _, hsz36, _⟩ := info_parts info5; have hroom36 : t287.length ≤ co35 := (Kd.R_reads' HO_5.out).2.1; have hC36 : Kd.C (Kd.int .u8) _ Ao35 t287.length t287 := (Kd.R_reads' HO_5.out).2.2; have hcut36 := cut_to (P := Try.prog) 22 5 .i64 Try.underlying22 hi036 Ao35 t287.length co35 (ji15) (of_decide_eq_true (by first | (with_reducible assumption) | assumption)) q36 hroom36; have hr36 := Kd.C_take (m := ((ji15) : Int).toNat) hC36 (by omega); have hy36 : y292.length = ((ji15) : Int).toNat := (by rw [Ny292.out, List.length_take]; omega); rw [← Ny292.out] at hr36; rw [← hy36] at hcut36; have HR295 := Aside0.mk hr36; have HC295 := Aside0.mk (show y292.length ≤ co35 from by omega); clear hr36 hC36 hroom36 hi036 hsz36; have KY36 := Aside0.mk hy36; clear hy36; have KL36 := Aside0.mk (show ((ji15) : Int).toNat ≤ t287.length from by omega); replace q36 := eq_true q36) | ((with_reducible refine gate_callee (f := 20) rfl ?_); refine goesL_ (some 46) rfl rfl Try.func20 (by kernel_rfl) rfl #[.slice Ao35 y292.length co35, .int .i64 0] rfl (by (try simp only [List.map_toArray, List.map_cons, List.map_nil]); first | done | rfl | (simp only [List.length_drop, List.length_take]; rfl)) ?_; (with_reducible refine (runes_Decode.calls kj5 _ _ y292 0 t296 t297 t298 _ ?side1 ?side2 A18.out).mono ?_); (case side1 => repeat (first | exact (by repeat (first | (with_reducible exact HR295.out) | (with_reducible refine Kd.C_alloc ?_ _) | (with_reducible refine Kd.C_drewN ?_ _) | (with_reducible refine Kd.C_drew ?_) | exact HR295.out)) | (with_reducible refine Kd.C_alloc ?_ _) | (with_reducible refine Kd.C_drewN ?_ _) | (with_reducible refine Kd.C_drew ?_))); (case side2 => exact HC295.out); rintro e w' ⟨rfl, ⟨nd, rfl⟩⟩; refine ⟨_, rfl, ?_⟩) | ((with_reducible refine gate_callee (f := 20) rfl ?_); refine goesL_ (some 53) rfl rfl Try.func20 (by kernel_rfl) rfl #[.slice Ao35 t287.length co35, .int .i64 ji15] rfl (by (try simp only [List.map_toArray, List.map_cons, List.map_nil]); first | done | (simp only [hji15]; rfl) | rfl | (simp only [List.length_drop, List.length_take]; rfl)) ?_; (with_reducible refine (runes_Decode.calls kj5 _ _ t287 ji15 t299 t300 t301 _ ?side1 ?side2 A19.out).mono ?_); (case side1 => repeat (first | exact (Kd.R_reads' HO_5.out).2.2 | (with_reducible refine Kd.C_alloc ?_ _) | (with_reducible refine Kd.C_drewN ?_ _) | (with_reducible refine Kd.C_drew ?_))); (case side2 => exact (Kd.R_reads' HO_5.out).2.1); rintro e w' ⟨rfl, ⟨nd, rfl⟩⟩; refine ⟨_, rfl, ?_⟩; have q37 : ((ji15) : Int) ≤ ((t287.length : Int) : Int) := of_decide_eq_true (by first | (with_reducible assumption) | assumption); obtain ⟨i037, hi037, _, hsz37, _⟩ := info_parts info5; have hroom37 : t287.length ≤ co35 := (Kd.R_reads' HO_5.out).2.1; have hC37 : Kd.C (Kd.int .u8) _ Ao35 t287.length t287 := (Kd.R_reads' HO_5.out).2.2; have hcut37 := cut_to (P := Try.prog) 22 5 .i64 Try.underlying22 hi037 Ao35 t287.length co35 (ji15) (of_decide_eq_true (by first | (with_reducible assumption) | assumption)) q37 hroom37; have hr37 := Kd.C_take (m := ((ji15) : Int).toNat) hC37 (by omega); have hy37 : y292.length = ((ji15) : Int).toNat := (by rw [Ny302.out, List.length_take]; omega); rw [← Ny302.out] at hr37; rw [← hy37] at hcut37; have HR305 := Aside0.mk hr37; have HC305 := Aside0.mk (show y292.length ≤ co35 from by omega); clear hr37 hC37 hroom37 hi037 hsz37; have KY37 := Aside0.mk hy37; clear hy37; have KL37 := Aside0.mk (show ((ji15) : Int).toNat ≤ t287.length from by omega); replace q37 := eq_true q37) | ((with_reducible refine gate_callee (f := 24) rfl ?_); refine goesL_ (some 61) rfl rfl Try.func24 (by kernel_rfl) rfl #[.slice Ao35 y292.length co35] rfl (by (try simp only [List.map_toArray, List.map_cons, List.map_nil]); first | done | rfl | (simp only [List.length_drop, List.length_take]; rfl)) ?_; (with_reducible refine (runes_Check.calls kj5 _ _ y292 t306 t307 _ ?side1 ?side2 A22.out).mono ?_); (case side1 => repeat (first | exact (by repeat (first | (with_reducible exact HR305.out) | (with_reducible refine Kd.C_alloc ?_ _) | (with_reducible refine Kd.C_drewN ?_ _) | (with_reducible refine Kd.C_drew ?_) | exact HR305.out)) | (with_reducible refine Kd.C_alloc ?_ _) | (with_reducible refine Kd.C_drewN ?_ _) | (with_reducible refine Kd.C_drew ?_))); (case side2 => exact HC305.out); rintro e w' ⟨rfl, ⟨nd, rfl⟩⟩; refine ⟨_, rfl, ?_⟩))
                go_ret
                exact ⟨by first | rfl | (simp [errW_none, errW_some] <;> rfl) | (simp only [← hji15]; first | rfl | (simp [errW_none, errW_some] <;> rfl)) | (simp [*, errW_none, errW_some] <;> rfl), by repeat (first | (with_reducible first | exact HB.out | apply below_alloc | apply pw_below_drewN | apply below_drew1) | exact HB.out)⟩
            · rw [if_neg c17] at H
              exact absurd H (by simp)
          · rw [if_neg c16] at H
            exact absurd H (by simp)
  · replace c4 := Bool.eq_false_iff.mpr c4
    subst c4
    have H1 : (some false) = some r := by rw [if_neg (show ¬ (false = true) by decide)] at H; exact H
    clear H
    have H := H1
    clear H1
    obtain rfl := Option.some.inj H
    go_enter Try.func9, Try.ntmps9
    go_wp2_with (first | ((with_reducible refine gate_callee (f := 18) rfl ?_); refine goesL_ (some 15) rfl rfl Try.func18 (by kernel_rfl) rfl #[] rfl (by (try simp only [List.map_toArray, List.map_cons, List.map_nil]); first | done | rfl | (simp only [List.length_drop, List.length_take]; rfl)) ?_; (with_reducible refine (colophonlaw01_works.calls k  false _ A3.out).mono ?_); rintro e w38 ⟨rfl, hb⟩; refine ⟨_, rfl, ?_⟩; have n0_ := Aside0.mk (below_step (by repeat (first | (with_reducible first | exact HB.out | apply below_alloc | apply pw_below_drewN | apply below_drew1) | exact HB.out)) hb); clear HB; have HB := n0_; clear n0_; (try clear hb); (try clear hb2); (try clear hk); (try clear hi)))
    go_ret
    exact ⟨by first | rfl | (simp [errW_none, errW_some] <;> rfl) | (simp [*, errW_none, errW_some] <;> rfl), by repeat (first | (with_reducible first | exact HB.out | apply below_alloc | apply pw_below_drewN | apply below_drew1) | exact HB.out)⟩

/-- THE ONE PURE STATEMENT of colophonlaw01_RunesPiece: yours. -/
def colophonlaw01_RunesPiece.Pure : Prop := ∀ (a0 : Int) (a1 : Int), (Lit.int .i64 a0).wf = true → (Lit.int .i64 a1).wf = true → ∃ k, colophonlaw01_RunesPiece.f k a0 a1 = some true
theorem colophonlaw01_RunesPiece.walk (P : colophonlaw01_RunesPiece.Pure) (a0 : Int) (a1 : Int) (w : World) (w0 : (Lit.int .i64 a0).wf = true) (w1 : (Lit.int .i64 a1).wf = true) :
    Calls Try.prog 9 #[.int .i64 a0, .int .i64 a1] w fun e w' => e = .returned (.bool true) ∧ Below w.heap.size w w' := by
  obtain ⟨k, h⟩ := P a0 a1 w0 w1
  refine (colophonlaw01_RunesPiece.calls k a0 a1 true w h).mono ?_
  rintro e w' ⟨rfl, hd⟩
  exact ⟨rfl, hd⟩

end Go.Proofs.Ytifmnjobapegeaa.PAll
