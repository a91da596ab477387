/- Contracts of the functions that the law reaches, each with the plain function that it comes to, and plain facts about these. -/
import Derived.Test.YtohfidjbnmlfeaaDoorBNum1
import Derived.Test.YtohfidjbnmlfeaaDoorBNum2
namespace Go.Proofs.YtohfidjbnmlfeaaDoor.P
open Go.RowKit Go.Proofs.YtohfidjbnmlfeaaDoorW.PrintWords Go.Proofs.YtohfidjbnmlfeaaDoorW.PrintLast Go.Proofs.YtohfidjbnmlfeaaDoorW.PrintMore
attribute [local go_sem] max2_int min2_int max_two min_two max_three min_three max_four min_four   -- for this text's walks alone
set_option linter.unusedVariables false
set_option linter.unusedSimpArgs false

/-! ### pannierlaw01_NumBack: function 13 -/
def pannierlaw01_NumBack.j0 : Nat → Int → Int → Option (Bool)
  | 0, _, _ => none
  | k + 1, x0, x1 => (num_Div.f x0 x1).bind fun bt422 => ((num_Mod.f x0 x1).bind fun bt424 => (if (bt422.2 != bt424.2) = true then (none) else (if bt422.2 = true then ((num_Mul.f k bt422.1 x1).bind fun bt426 => ((num_Add.f bt426.1 bt424.1).bind fun bt428 => (if bt426.2 = true then (if bt428.2 = true then (if bt428.1 = x0 then (if bt424.1 = 0 then ((pannierlaw01_wakes.f k).bind fun t430 => (some t430)) else (if ((decide (bt424.1 < 0)) == (decide (x0 < 0))) = true then ((pannierlaw01_wakes.f k).bind fun t431 => (some t431)) else (none))) else (none)) else (none)) else (none)))) else (if x1 = 0 then ((pannierlaw01_wakes.f k).bind fun t432 => (some t432)) else (if x0 = (-9223372036854775808) then (if x1 = (-1) then ((pannierlaw01_wakes.f k).bind fun t433 => (some t433)) else (none)) else (none))))))
def pannierlaw01_NumBack.f (k : Nat) (a0 : Int) (a1 : Int) : Option (Bool) := (num_Add.f a0 a1).bind fun bt418 => (if bt418.2 = true then ((num_Sub.f bt418.1 a1).bind fun bt420 => (if bt420.2 = true then (if bt420.1 = a0 then (pannierlaw01_NumBack.j0 k a0 a1) else (none)) else (none))) else (pannierlaw01_NumBack.j0 k a0 a1))
theorem pannierlaw01_NumBack.mono_l : ∀ k, (∀ y0 y1, LeO (pannierlaw01_NumBack.j0 k y0 y1) (pannierlaw01_NumBack.j0 (k + 1) y0 y1))
  | 0 => fun _ _ r h => by simp [pannierlaw01_NumBack.j0] at h
  | k + 1 => by
    have ih0 := pannierlaw01_NumBack.mono_l k
    · intro y0 y1
      unfold pannierlaw01_NumBack.j0
      repeat' first
      | (with_reducible exact ih0 _ _)
      | (with_reducible exact num_Mul.mono _ _ _)
      | (with_reducible exact pannierlaw01_wakes.mono _)
      | (with_reducible exact LeO.refl _)
      | (with_reducible exact LeO.none _)
      | (with_reducible refine LeO.ite ?_ ?_)
      | (with_reducible refine LeO.bind ?_ (fun _ => ?_))
      | exact ih0 _ _
      | exact num_Mul.mono _ _ _
      | exact pannierlaw01_wakes.mono _
      | exact LeO.none _
      | refine LeO.ite ?_ ?_
      | refine LeO.bind ?_ (fun _ => ?_)
theorem pannierlaw01_NumBack.mono : ∀ a0 a1 k, LeO (pannierlaw01_NumBack.f k a0 a1) (pannierlaw01_NumBack.f (k + 1) a0 a1) := by
  intro a0 a1 k
  have ih0 := pannierlaw01_NumBack.mono_l k
  unfold pannierlaw01_NumBack.f
  repeat' first
      | (with_reducible exact ih0 _ _)
      | (with_reducible exact num_Mul.mono _ _ _)
      | (with_reducible exact pannierlaw01_wakes.mono _)
      | (with_reducible exact LeO.refl _)
      | (with_reducible exact LeO.none _)
      | (with_reducible refine LeO.ite ?_ ?_)
      | (with_reducible refine LeO.bind ?_ (fun _ => ?_))
      | exact ih0 _ _
      | exact num_Mul.mono _ _ _
      | exact pannierlaw01_wakes.mono _
      | exact LeO.none _
      | refine LeO.ite ?_ ?_
      | refine LeO.bind ?_ (fun _ => ?_)
set_option maxHeartbeats 8000000 in
set_option maxRecDepth 100000 in
theorem pannierlaw01_NumBack.calls (k : Nat) (a0 : Int) (a1 : Int) (r : Bool) (w : World) (hG : G2 w) (h : pannierlaw01_NumBack.f k a0 a1 = some r) :
    Calls Tryd.prog 13 #[.int .i64 a0, .int .i64 a1] w fun e w' => e = .returned (.bool r) ∧ Below w.heap.size w w' := by
  have HB := Aside0.mk (Below.refl w.heap.size w)
  have H : ((num_Add.f a0 a1).bind fun bt418 => (if bt418.2 = true then ((num_Sub.f bt418.1 a1).bind fun bt420 => (if bt420.2 = true then (if bt420.1 = a0 then (pannierlaw01_NumBack.j0 k a0 a1) else (none)) else (none))) else (pannierlaw01_NumBack.j0 k a0 a1))) = some r := h
  clear h
  replace H := Option.bind_eq_some_iff.mp H
  obtain ⟨⟨t418, t419⟩, A30, H⟩ := H
  replace H : (if t419 = true then ((num_Sub.f t418 a1).bind fun bt420 => (if bt420.2 = true then (if bt420.1 = a0 then (pannierlaw01_NumBack.j0 k a0 a1) else (none)) else (none))) else (pannierlaw01_NumBack.j0 k a0 a1)) = some r := H
  have A3 := Aside0.mk A30
  clear A30
  have HC4 := Aside0.mk H
  clear H
  go_enter Tryd.func13, Tryd.ntmps13
  go_upto_if 23 with (first | ((with_reducible refine gate_callee (f := 48) rfl ?_); refine goesL_ (some 20) rfl rfl Tryd.func48 (by kernel_rfl) rfl #[.int .i64 a0, .int .i64 a1] rfl (by (try simp only [List.map_toArray, List.map_cons, List.map_nil]); first | done | rfl | (simp only [List.length_drop, List.length_take]; rfl)) ?_; (with_reducible refine (num_Add.calls a0 a1 t418 t419 _ A3.out).mono ?_); rintro e w' ⟨rfl, ⟨nd, rfl⟩⟩; refine ⟨_, rfl, ?_⟩))
  (try simp only [Act.put, List.setIfInBounds_toArray, List.set_cons_zero, List.set_cons_succ])
  go_cut [] (fun wc => ∃ (kq : Nat), Aside0 (pannierlaw01_NumBack.j0 kq a0 a1 = some r) ∧ Aside0 (kq ≤ k) ∧ Aside0 (Below w.heap.size w wc))
  case first =>
    have H := HC4.out
    clear HC4
    by_cases c5 : t419 = true
    · subst c5
      have H1 : ((num_Sub.f t418 a1).bind fun bt420 => (if bt420.2 = true then (if bt420.1 = a0 then (pannierlaw01_NumBack.j0 k a0 a1) else (none)) else (none))) = some r := by rw [if_pos rfl] at H; exact H
      clear H
      have H := H1
      clear H1
      replace H := Option.bind_eq_some_iff.mp H
      obtain ⟨⟨t420, t421⟩, A60, H⟩ := H
      replace H : (if t421 = true then (if t420 = a0 then (pannierlaw01_NumBack.j0 k a0 a1) else (none)) else (none)) = some r := H
      have A6 := Aside0.mk A60
      clear A60
      by_cases c7 : t421 = true
      · subst c7
        have H1 : (if t420 = a0 then (pannierlaw01_NumBack.j0 k a0 a1) else (none)) = some r := by rw [if_pos rfl] at H; exact H
        clear H
        have H := H1
        clear H1
        by_cases c8 : t420 = a0
        · rw [if_pos c8] at H
          have c8b0 : (t420 == a0) = true := beq_iff_eq.mpr c8
          have c8b1 : (t420 != a0) = false := bne_eq_false_iff_eq.mpr c8
          clear c8
          (first | rw [c8b0] | (simp only [i64_w, i32_w]; rw [c8b0]) | skip)
          have H' := Aside0.mk H
          clear H
          go_wp2_with (first | ((with_reducible refine gate_callee (f := 49) rfl ?_); refine goesL_ (some 27) rfl rfl Tryd.func49 (by kernel_rfl) rfl #[.int .i64 t418, .int .i64 a1] rfl (by (try simp only [List.map_toArray, List.map_cons, List.map_nil]); first | done | rfl | (simp only [List.length_drop, List.length_take]; rfl)) ?_; (with_reducible refine (num_Sub.calls t418 a1 t420 true _ A6.out).mono ?_); rintro e w' ⟨rfl, ⟨nd, rfl⟩⟩; refine ⟨_, rfl, ?_⟩))
          go_meet
          case rel => exact ⟨_, H', ⟨by first | omega | exact Nat.le_refl _⟩, ⟨by repeat (first | (with_reducible first | exact HB.out | apply below_alloc | apply pw_below_drewN | apply below_drew1) | exact HB.out)⟩⟩
        · rw [if_neg c8] at H
          exact absurd H (by simp)
      · replace c7 := Bool.eq_false_iff.mpr c7
        subst c7
        have H1 : (none) = some r := by rw [if_neg (show ¬ (false = true) by decide)] at H; exact H
        clear H
        have H := H1
        clear H1
        exact absurd H (by simp)
    · replace c5 := Bool.eq_false_iff.mpr c5
      subst c5
      have H1 : (pannierlaw01_NumBack.j0 k a0 a1) = some r := by rw [if_neg (show ¬ (false = true) by decide)] at H; exact H
      clear H
      have H := H1
      clear H1
      have H' := Aside0.mk H
      clear H
      go_wp2
      go_meet
      case rel => exact ⟨_, H', ⟨by first | omega | exact Nat.le_refl _⟩, ⟨by repeat (first | (with_reducible first | exact HB.out | apply below_alloc | apply pw_below_drewN | apply below_drew1) | exact HB.out)⟩⟩
  case rest =>
    clear HC4
    try clear c1
    try clear p2
    try clear c4
    try clear c5
    try clear c7
    try clear c8
    try clear c8b0
    try clear c8b1
    obtain ⟨kq, HA, HJ3, HB⟩ := hcut
    cases kq with
    | zero => exact absurd HA.out (by simp [pannierlaw01_NumBack.j0])
    | succ kj3 =>
      have H := HA.out
      clear HA
      simp only [pannierlaw01_NumBack.j0] at H
      replace H := Option.bind_eq_some_iff.mp H
      obtain ⟨⟨t422, t423⟩, A90, H⟩ := H
      replace H : ((num_Mod.f a0 a1).bind fun bt424 => (if (t423 != bt424.2) = true then (none) else (if t423 = true then ((num_Mul.f kj3 t422 a1).bind fun bt426 => ((num_Add.f bt426.1 bt424.1).bind fun bt428 => (if bt426.2 = true then (if bt428.2 = true then (if bt428.1 = a0 then (if bt424.1 = 0 then ((pannierlaw01_wakes.f kj3).bind fun t430 => (some t430)) else (if ((decide (bt424.1 < 0)) == (decide (a0 < 0))) = true then ((pannierlaw01_wakes.f kj3).bind fun t431 => (some t431)) else (none))) else (none)) else (none)) else (none)))) else (if a1 = 0 then ((pannierlaw01_wakes.f kj3).bind fun t432 => (some t432)) else (if a0 = (-9223372036854775808) then (if a1 = (-1) then ((pannierlaw01_wakes.f kj3).bind fun t433 => (some t433)) else (none)) else (none)))))) = some r := H
      have A9 := Aside0.mk A90
      clear A90
      replace H := Option.bind_eq_some_iff.mp H
      obtain ⟨⟨t424, t425⟩, A100, H⟩ := H
      replace H : (if (t423 != t425) = true then (none) else (if t423 = true then ((num_Mul.f kj3 t422 a1).bind fun bt426 => ((num_Add.f bt426.1 t424).bind fun bt428 => (if bt426.2 = true then (if bt428.2 = true then (if bt428.1 = a0 then (if t424 = 0 then ((pannierlaw01_wakes.f kj3).bind fun t430 => (some t430)) else (if ((decide (t424 < 0)) == (decide (a0 < 0))) = true then ((pannierlaw01_wakes.f kj3).bind fun t431 => (some t431)) else (none))) else (none)) else (none)) else (none)))) else (if a1 = 0 then ((pannierlaw01_wakes.f kj3).bind fun t432 => (some t432)) else (if a0 = (-9223372036854775808) then (if a1 = (-1) then ((pannierlaw01_wakes.f kj3).bind fun t433 => (some t433)) else (none)) else (none))))) = some r := H
      have A10 := Aside0.mk A100
      clear A100
      by_cases c11 : (t423 != t425) = true
      · rw [if_pos c11] at H
        exact absurd H (by simp)
      · rw [if_neg c11] at H
        have c11b0 : (t423 != t425) = false := by simpa using c11
        (try (have c11b1 : decide (t423 = t425) = true := by simpa using c11))
        (try (have c11b2 : (t423 == t425) = true := by simpa using c11))
        clear c11
        by_cases c12 : t423 = true
        · subst c12
          have H1 : ((num_Mul.f kj3 t422 a1).bind fun bt426 => ((num_Add.f bt426.1 t424).bind fun bt428 => (if bt426.2 = true then (if bt428.2 = true then (if bt428.1 = a0 then (if t424 = 0 then ((pannierlaw01_wakes.f kj3).bind fun t430 => (some t430)) else (if ((decide (t424 < 0)) == (decide (a0 < 0))) = true then ((pannierlaw01_wakes.f kj3).bind fun t431 => (some t431)) else (none))) else (none)) else (none)) else (none)))) = some r := by rw [if_pos rfl] at H; exact H
          clear H
          have H := H1
          clear H1
          replace H := Option.bind_eq_some_iff.mp H
          obtain ⟨⟨t426, t427⟩, A130, H⟩ := H
          replace H : ((num_Add.f t426 t424).bind fun bt428 => (if t427 = true then (if bt428.2 = true then (if bt428.1 = a0 then (if t424 = 0 then ((pannierlaw01_wakes.f kj3).bind fun t430 => (some t430)) else (if ((decide (t424 < 0)) == (decide (a0 < 0))) = true then ((pannierlaw01_wakes.f kj3).bind fun t431 => (some t431)) else (none))) else (none)) else (none)) else (none))) = some r := H
          have A13 := Aside0.mk A130
          clear A130
          replace H := Option.bind_eq_some_iff.mp H
          obtain ⟨⟨t428, t429⟩, A140, H⟩ := H
          replace H : (if t427 = true then (if t429 = true then (if t428 = a0 then (if t424 = 0 then ((pannierlaw01_wakes.f kj3).bind fun t430 => (some t430)) else (if ((decide (t424 < 0)) == (decide (a0 < 0))) = true then ((pannierlaw01_wakes.f kj3).bind fun t431 => (some t431)) else (none))) else (none)) else (none)) else (none)) = some r := H
          have A14 := Aside0.mk A140
          clear A140
          by_cases c15 : t427 = true
          · subst c15
            have H1 : (if t429 = true then (if t428 = a0 then (if t424 = 0 then ((pannierlaw01_wakes.f kj3).bind fun t430 => (some t430)) else (if ((decide (t424 < 0)) == (decide (a0 < 0))) = true then ((pannierlaw01_wakes.f kj3).bind fun t431 => (some t431)) else (none))) else (none)) else (none)) = some r := by rw [if_pos rfl] at H; exact H
            clear H
            have H := H1
            clear H1
            by_cases c16 : t429 = true
            · subst c16
              have H1 : (if t428 = a0 then (if t424 = 0 then ((pannierlaw01_wakes.f kj3).bind fun t430 => (some t430)) else (if ((decide (t424 < 0)) == (decide (a0 < 0))) = true then ((pannierlaw01_wakes.f kj3).bind fun t431 => (some t431)) else (none))) else (none)) = some r := by rw [if_pos rfl] at H; exact H
              clear H
              have H := H1
              clear H1
              by_cases c17 : t428 = a0
              · rw [if_pos c17] at H
                have c17b0 : (t428 == a0) = true := beq_iff_eq.mpr c17
                have c17b1 : (t428 != a0) = false := bne_eq_false_iff_eq.mpr c17
                clear c17
                by_cases c18 : t424 = 0
                · rw [if_pos c18] at H
                  have c18b0 : (t424 == 0) = true := beq_iff_eq.mpr c18
                  have c18b1 : (t424 != 0) = false := bne_eq_false_iff_eq.mpr c18
                  clear c18
                  replace H := Option.bind_eq_some_iff.mp H
                  obtain ⟨t430, A190, H⟩ := H
                  replace H : (some t430) = some r := H
                  have A19 := Aside0.mk A190
                  clear A190
                  obtain rfl := Option.some.inj H
                  go_wp2_with (first | ((with_reducible refine gate_callee (f := 39) rfl ?_); refine goesL_ (some 40) rfl rfl Tryd.func39 (by kernel_rfl) rfl #[.int .i64 a0, .int .i64 a1] rfl (by (try simp only [List.map_toArray, List.map_cons, List.map_nil]); first | done | rfl | (simp only [List.length_drop, List.length_take]; rfl)) ?_; (with_reducible refine (num_Div.calls a0 a1 t422 true _ A9.out).mono ?_); rintro e w' ⟨rfl, ⟨nd, rfl⟩⟩; refine ⟨_, rfl, ?_⟩) | ((with_reducible refine gate_callee (f := 40) rfl ?_); refine goesL_ (some 46) rfl rfl Tryd.func40 (by kernel_rfl) rfl #[.int .i64 a0, .int .i64 a1] rfl (by (try simp only [List.map_toArray, List.map_cons, List.map_nil]); first | done | rfl | (simp only [List.length_drop, List.length_take]; rfl)) ?_; (with_reducible refine (num_Mod.calls a0 a1 t424 t425 _ A10.out).mono ?_); rintro e w' ⟨rfl, ⟨nd, rfl⟩⟩; refine ⟨_, rfl, ?_⟩) | ((with_reducible refine gate_callee (f := 47) rfl ?_); refine goesL_ (some 70) rfl rfl Tryd.func47 (by kernel_rfl) rfl #[.int .i64 t422, .int .i64 a1] rfl (by (try simp only [List.map_toArray, List.map_cons, List.map_nil]); first | done | rfl | (simp only [List.length_drop, List.length_take]; rfl)) ?_; (with_reducible refine (num_Mul.calls kj3 t422 a1 t426 true _ A13.out).mono ?_); rintro e w' ⟨rfl, ⟨nd, rfl⟩⟩; refine ⟨_, rfl, ?_⟩) | ((with_reducible refine gate_callee (f := 48) rfl ?_); refine goesL_ (some 76) rfl rfl Tryd.func48 (by kernel_rfl) rfl #[.int .i64 t426, .int .i64 t424] rfl (by (try simp only [List.map_toArray, List.map_cons, List.map_nil]); first | done | rfl | (simp only [List.length_drop, List.length_take]; rfl)) ?_; (with_reducible refine (num_Add.calls t426 t424 t428 true _ A14.out).mono ?_); rintro e w' ⟨rfl, ⟨nd, rfl⟩⟩; refine ⟨_, rfl, ?_⟩) | (go_at_call 34; (with_reducible refine (pannierlaw01_wakes.calls kj3  t430 _ ?side1 A19.out).mono ?_); (case side1 => exact gl_2_2 (by repeat (first | (with_reducible first | exact HB.out | apply below_alloc | apply pw_below_drewN | apply below_drew1) | exact HB.out)) hG); rintro e w20 ⟨rfl, hb⟩; have n0_ := Aside0.mk (below_step (by repeat (first | (with_reducible first | exact HB.out | apply below_alloc | apply pw_below_drewN | apply below_drew1) | exact HB.out)) hb); clear HB; have HB := n0_; clear n0_; (try clear hb); (try clear hb2); (try clear hk); (try clear hi)))
                  go_ret
                  exact ⟨by first | rfl | (simp [errW_none, errW_some] <;> rfl) | (simp [*, errW_none, errW_some] <;> rfl), by repeat (first | (with_reducible first | exact HB.out | apply below_alloc | apply pw_below_drewN | apply below_drew1) | exact HB.out)⟩
                · rw [if_neg c18] at H
                  have c18b0 : (t424 == 0) = false := beq_eq_false_iff_ne.mpr c18
                  have c18b1 : (t424 != 0) = true := bne_iff_ne.mpr c18
                  by_cases c21 : ((decide (t424 < 0)) == (decide (a0 < 0))) = true
                  · rw [if_pos c21] at H
                    have c21b0 : ((decide (t424 < 0)) == (decide (a0 < 0))) = true := c21
                    (try (have c21b1 : decide ((decide (t424 < 0)) = (decide (a0 < 0))) = true := by simpa using c21))
                    (try (have c21b2 : ((decide (t424 < 0)) == (decide (a0 < 0))) = true := by simpa using c21))
                    clear c21
                    replace H := Option.bind_eq_some_iff.mp H
                    obtain ⟨t431, A220, H⟩ := H
                    replace H : (some t431) = some r := H
                    have A22 := Aside0.mk A220
                    clear A220
                    obtain rfl := Option.some.inj H
                    go_wp2_with (first | ((with_reducible refine gate_callee (f := 39) rfl ?_); refine goesL_ (some 40) rfl rfl Tryd.func39 (by kernel_rfl) rfl #[.int .i64 a0, .int .i64 a1] rfl (by (try simp only [List.map_toArray, List.map_cons, List.map_nil]); first | done | rfl | (simp only [List.length_drop, List.length_take]; rfl)) ?_; (with_reducible refine (num_Div.calls a0 a1 t422 true _ A9.out).mono ?_); rintro e w' ⟨rfl, ⟨nd, rfl⟩⟩; refine ⟨_, rfl, ?_⟩) | ((with_reducible refine gate_callee (f := 40) rfl ?_); refine goesL_ (some 46) rfl rfl Tryd.func40 (by kernel_rfl) rfl #[.int .i64 a0, .int .i64 a1] rfl (by (try simp only [List.map_toArray, List.map_cons, List.map_nil]); first | done | rfl | (simp only [List.length_drop, List.length_take]; rfl)) ?_; (with_reducible refine (num_Mod.calls a0 a1 t424 t425 _ A10.out).mono ?_); rintro e w' ⟨rfl, ⟨nd, rfl⟩⟩; refine ⟨_, rfl, ?_⟩) | ((with_reducible refine gate_callee (f := 47) rfl ?_); refine goesL_ (some 70) rfl rfl Tryd.func47 (by kernel_rfl) rfl #[.int .i64 t422, .int .i64 a1] rfl (by (try simp only [List.map_toArray, List.map_cons, List.map_nil]); first | done | rfl | (simp only [List.length_drop, List.length_take]; rfl)) ?_; (with_reducible refine (num_Mul.calls kj3 t422 a1 t426 true _ A13.out).mono ?_); rintro e w' ⟨rfl, ⟨nd, rfl⟩⟩; refine ⟨_, rfl, ?_⟩) | ((with_reducible refine gate_callee (f := 48) rfl ?_); refine goesL_ (some 76) rfl rfl Tryd.func48 (by kernel_rfl) rfl #[.int .i64 t426, .int .i64 t424] rfl (by (try simp only [List.map_toArray, List.map_cons, List.map_nil]); first | done | rfl | (simp only [List.length_drop, List.length_take]; rfl)) ?_; (with_reducible refine (num_Add.calls t426 t424 t428 true _ A14.out).mono ?_); rintro e w' ⟨rfl, ⟨nd, rfl⟩⟩; refine ⟨_, rfl, ?_⟩) | (go_at_call 34; (with_reducible refine (pannierlaw01_wakes.calls kj3  t431 _ ?side1 A22.out).mono ?_); (case side1 => exact gl_2_2 (by repeat (first | (with_reducible first | exact HB.out | apply below_alloc | apply pw_below_drewN | apply below_drew1) | exact HB.out)) hG); rintro e w23 ⟨rfl, hb⟩; have n0_ := Aside0.mk (below_step (by repeat (first | (with_reducible first | exact HB.out | apply below_alloc | apply pw_below_drewN | apply below_drew1) | exact HB.out)) hb); clear HB; have HB := n0_; clear n0_; (try clear hb); (try clear hb2); (try clear hk); (try clear hi)))
                    go_ret
                    exact ⟨by first | rfl | (simp [errW_none, errW_some] <;> rfl) | (simp [*, errW_none, errW_some] <;> rfl), by repeat (first | (with_reducible first | exact HB.out | apply below_alloc | apply pw_below_drewN | apply below_drew1) | exact HB.out)⟩
                  · rw [if_neg c21] at H
                    exact absurd H (by simp)
              · rw [if_neg c17] at H
                exact absurd H (by simp)
            · replace c16 := Bool.eq_false_iff.mpr c16
              subst c16
              have H1 : (none) = some r := by rw [if_neg (show ¬ (false = true) by decide)] at H; exact H
              clear H
              have H := H1
              clear H1
              exact absurd H (by simp)
          · replace c15 := Bool.eq_false_iff.mpr c15
            subst c15
            have H1 : (none) = some r := by rw [if_neg (show ¬ (false = true) by decide)] at H; exact H
            clear H
            have H := H1
            clear H1
            exact absurd H (by simp)
        · replace c12 := Bool.eq_false_iff.mpr c12
          subst c12
          have H1 : (if a1 = 0 then ((pannierlaw01_wakes.f kj3).bind fun t432 => (some t432)) else (if a0 = (-9223372036854775808) then (if a1 = (-1) then ((pannierlaw01_wakes.f kj3).bind fun t433 => (some t433)) else (none)) else (none))) = some r := by rw [if_neg (show ¬ (false = true) by decide)] at H; exact H
          clear H
          have H := H1
          clear H1
          by_cases c24 : a1 = 0
          · rw [if_pos c24] at H
            have c24b0 : (a1 == 0) = true := beq_iff_eq.mpr c24
            have c24b1 : (a1 != 0) = false := bne_eq_false_iff_eq.mpr c24
            clear c24
            replace H := Option.bind_eq_some_iff.mp H
            obtain ⟨t432, A250, H⟩ := H
            replace H : (some t432) = some r := H
            have A25 := Aside0.mk A250
            clear A250
            obtain rfl := Option.some.inj H
            go_wp2_with (first | ((with_reducible refine gate_callee (f := 39) rfl ?_); refine goesL_ (some 40) rfl rfl Tryd.func39 (by kernel_rfl) rfl #[.int .i64 a0, .int .i64 a1] rfl (by (try simp only [List.map_toArray, List.map_cons, List.map_nil]); first | done | rfl | (simp only [List.length_drop, List.length_take]; rfl)) ?_; (with_reducible refine (num_Div.calls a0 a1 t422 false _ A9.out).mono ?_); rintro e w' ⟨rfl, ⟨nd, rfl⟩⟩; refine ⟨_, rfl, ?_⟩) | ((with_reducible refine gate_callee (f := 40) rfl ?_); refine goesL_ (some 46) rfl rfl Tryd.func40 (by kernel_rfl) rfl #[.int .i64 a0, .int .i64 a1] rfl (by (try simp only [List.map_toArray, List.map_cons, List.map_nil]); first | done | rfl | (simp only [List.length_drop, List.length_take]; rfl)) ?_; (with_reducible refine (num_Mod.calls a0 a1 t424 t425 _ A10.out).mono ?_); rintro e w' ⟨rfl, ⟨nd, rfl⟩⟩; refine ⟨_, rfl, ?_⟩) | (go_at_call 34; (with_reducible refine (pannierlaw01_wakes.calls kj3  t432 _ ?side1 A25.out).mono ?_); (case side1 => exact gl_2_2 (by repeat (first | (with_reducible first | exact HB.out | apply below_alloc | apply pw_below_drewN | apply below_drew1) | exact HB.out)) hG); rintro e w26 ⟨rfl, hb⟩; have n0_ := Aside0.mk (below_step (by repeat (first | (with_reducible first | exact HB.out | apply below_alloc | apply pw_below_drewN | apply below_drew1) | exact HB.out)) hb); clear HB; have HB := n0_; clear n0_; (try clear hb); (try clear hb2); (try clear hk); (try clear hi)))
            go_ret
            exact ⟨by first | rfl | (simp [errW_none, errW_some] <;> rfl) | (simp [*, errW_none, errW_some] <;> rfl), by repeat (first | (with_reducible first | exact HB.out | apply below_alloc | apply pw_below_drewN | apply below_drew1) | exact HB.out)⟩
          · rw [if_neg c24] at H
            have c24b0 : (a1 == 0) = false := beq_eq_false_iff_ne.mpr c24
            have c24b1 : (a1 != 0) = true := bne_iff_ne.mpr c24
            by_cases c27 : a0 = (-9223372036854775808)
            · rw [if_pos c27] at H
              have c27b0 : (a0 == (-9223372036854775808)) = true := beq_iff_eq.mpr c27
              have c27b1 : (a0 != (-9223372036854775808)) = false := bne_eq_false_iff_eq.mpr c27
              clear c27
              by_cases c28 : a1 = (-1)
              · rw [if_pos c28] at H
                have c28b0 : (a1 == (-1)) = true := beq_iff_eq.mpr c28
                have c28b1 : (a1 != (-1)) = false := bne_eq_false_iff_eq.mpr c28
                clear c28
                replace H := Option.bind_eq_some_iff.mp H
                obtain ⟨t433, A290, H⟩ := H
                replace H : (some t433) = some r := H
                have A29 := Aside0.mk A290
                clear A290
                obtain rfl := Option.some.inj H
                go_wp2_with (first | ((with_reducible refine gate_callee (f := 39) rfl ?_); refine goesL_ (some 40) rfl rfl Tryd.func39 (by kernel_rfl) rfl #[.int .i64 a0, .int .i64 a1] rfl (by (try simp only [List.map_toArray, List.map_cons, List.map_nil]); first | done | rfl | (simp only [List.length_drop, List.length_take]; rfl)) ?_; (with_reducible refine (num_Div.calls a0 a1 t422 false _ A9.out).mono ?_); rintro e w' ⟨rfl, ⟨nd, rfl⟩⟩; refine ⟨_, rfl, ?_⟩) | ((with_reducible refine gate_callee (f := 40) rfl ?_); refine goesL_ (some 46) rfl rfl Tryd.func40 (by kernel_rfl) rfl #[.int .i64 a0, .int .i64 a1] rfl (by (try simp only [List.map_toArray, List.map_cons, List.map_nil]); first | done | rfl | (simp only [List.length_drop, List.length_take]; rfl)) ?_; (with_reducible refine (num_Mod.calls a0 a1 t424 t425 _ A10.out).mono ?_); rintro e w' ⟨rfl, ⟨nd, rfl⟩⟩; refine ⟨_, rfl, ?_⟩) | (go_at_call 34; (with_reducible refine (pannierlaw01_wakes.calls kj3  t433 _ ?side1 A29.out).mono ?_); (case side1 => exact gl_2_2 (by repeat (first | (with_reducible first | exact HB.out | apply below_alloc | apply pw_below_drewN | apply below_drew1) | exact HB.out)) hG); rintro e w30 ⟨rfl, hb⟩; have n0_ := Aside0.mk (below_step (by repeat (first | (with_reducible first | exact HB.out | apply below_alloc | apply pw_below_drewN | apply below_drew1) | exact HB.out)) hb); clear HB; have HB := n0_; clear n0_; (try clear hb); (try clear hb2); (try clear hk); (try clear hi)))
                go_ret
                exact ⟨by first | rfl | (simp [errW_none, errW_some] <;> rfl) | (simp [*, errW_none, errW_some] <;> rfl), by repeat (first | (with_reducible first | exact HB.out | apply below_alloc | apply pw_below_drewN | apply below_drew1) | exact HB.out)⟩
              · rw [if_neg c28] at H
                exact absurd H (by simp)
            · rw [if_neg c27] at H
              exact absurd H (by simp)

end Go.Proofs.YtohfidjbnmlfeaaDoor.P

namespace Go.Proofs.YtohfidjbnmlfeaaDoor.P
open Go.RowKit Go.Proofs.YtohfidjbnmlfeaaDoorW.PrintWords Go.Proofs.YtohfidjbnmlfeaaDoorW.PrintLast Go.Proofs.YtohfidjbnmlfeaaDoorW.PrintMore
attribute [local go_sem] max2_int min2_int max_two min_two max_three min_three max_four min_four   -- for this text's walks alone
set_option linter.unusedVariables false
set_option linter.unusedSimpArgs false

/-! ### pannierlaw01_NumGcd: function 10 -/
def pannierlaw01_NumGcd.j0 : Nat → Int → Int → Int → Int → Bool → Option (Bool)
  | 0, _, _, _, _, _ => none
  | k + 1, x0, x1, x2, x7, x42 => if x42 = true then (none) else (if x7 = 0 then (if x0 = 0 then (if x1 = 0 then ((pannierlaw01_wakes.f k).bind fun t355 => (some t355)) else (none)) else (none)) else (if (Int.tmod (wrap64 (x0)) x7) = 0 then (if (Int.tmod (wrap64 (x1)) x7) = 0 then (if (wrap64 ((wrap64 (x2)) + 1)) = 0 then (none) else (if (Int.tmod (wrap64 (x0)) (wrap64 ((wrap64 (x2)) + 1))) = 0 then (if (Int.tmod (wrap64 (x1)) (wrap64 ((wrap64 (x2)) + 1))) = 0 then (if (Int.tmod x7 (wrap64 ((wrap64 (x2)) + 1))) = 0 then ((pannierlaw01_wakes.f k).bind fun t356 => (some t356)) else (none)) else ((pannierlaw01_wakes.f k).bind fun t357 => (some t357))) else ((pannierlaw01_wakes.f k).bind fun t358 => (some t358)))) else (none)) else (none)))
def pannierlaw01_NumGcd.f (k : Nat) (a0 : Int) (a1 : Int) (a2 : Int) : Option (Bool) := (num_Gcd.f k (wrap64 (a0)) (wrap64 (a1))).bind fun bt351 => ((num_Gcd.f k (wrap64 (a1)) (wrap64 (a0))).bind fun bt353 => (if bt351.2 = true then (if bt353.2 = true then (if bt351.1 = bt353.1 then (pannierlaw01_NumGcd.j0 k a0 a1 a2 bt351.1 (decide (bt351.1 < 0))) else (pannierlaw01_NumGcd.j0 k a0 a1 a2 bt351.1 true)) else (pannierlaw01_NumGcd.j0 k a0 a1 a2 bt351.1 true)) else (pannierlaw01_NumGcd.j0 k a0 a1 a2 bt351.1 true)))
theorem pannierlaw01_NumGcd.mono_l : ∀ k, (∀ y0 y1 y2 y3 y4, LeO (pannierlaw01_NumGcd.j0 k y0 y1 y2 y3 y4) (pannierlaw01_NumGcd.j0 (k + 1) y0 y1 y2 y3 y4))
  | 0 => fun _ _ _ _ _ r h => by simp [pannierlaw01_NumGcd.j0] at h
  | k + 1 => by
    have ih0 := pannierlaw01_NumGcd.mono_l k
    · intro y0 y1 y2 y3 y4
      unfold pannierlaw01_NumGcd.j0
      repeat' first
      | (with_reducible exact ih0 _ _ _ _ _)
      | (with_reducible exact num_Gcd.mono _ _ _)
      | (with_reducible exact pannierlaw01_wakes.mono _)
      | (with_reducible exact LeO.refl _)
      | (with_reducible exact LeO.none _)
      | (with_reducible refine LeO.ite ?_ ?_)
      | (with_reducible refine LeO.bind ?_ (fun _ => ?_))
      | exact ih0 _ _ _ _ _
      | exact num_Gcd.mono _ _ _
      | exact pannierlaw01_wakes.mono _
      | exact LeO.none _
      | refine LeO.ite ?_ ?_
      | refine LeO.bind ?_ (fun _ => ?_)
theorem pannierlaw01_NumGcd.mono : ∀ a0 a1 a2 k, LeO (pannierlaw01_NumGcd.f k a0 a1 a2) (pannierlaw01_NumGcd.f (k + 1) a0 a1 a2) := by
  intro a0 a1 a2 k
  have ih0 := pannierlaw01_NumGcd.mono_l k
  unfold pannierlaw01_NumGcd.f
  repeat' first
      | (with_reducible exact ih0 _ _ _ _ _)
      | (with_reducible exact num_Gcd.mono _ _ _)
      | (with_reducible exact pannierlaw01_wakes.mono _)
      | (with_reducible exact LeO.refl _)
      | (with_reducible exact LeO.none _)
      | (with_reducible refine LeO.ite ?_ ?_)
      | (with_reducible refine LeO.bind ?_ (fun _ => ?_))
      | exact ih0 _ _ _ _ _
      | exact num_Gcd.mono _ _ _
      | exact pannierlaw01_wakes.mono _
      | exact LeO.none _
      | refine LeO.ite ?_ ?_
      | refine LeO.bind ?_ (fun _ => ?_)
set_option maxHeartbeats 8000000 in
set_option maxRecDepth 100000 in
theorem pannierlaw01_NumGcd.calls (k : Nat) (a0 : Int) (a1 : Int) (a2 : Int) (r : Bool) (w : World) (hG : G2 w) (h : pannierlaw01_NumGcd.f k a0 a1 a2 = some r) :
    Calls Tryd.prog 10 #[.int .i32 a0, .int .i32 a1, .int .u8 a2] w fun e w' => e = .returned (.bool r) ∧ Below w.heap.size w w' := by
  have HB := Aside0.mk (Below.refl w.heap.size w)
  have H : ((num_Gcd.f k (wrap64 (a0)) (wrap64 (a1))).bind fun bt351 => ((num_Gcd.f k (wrap64 (a1)) (wrap64 (a0))).bind fun bt353 => (if bt351.2 = true then (if bt353.2 = true then (if bt351.1 = bt353.1 then (pannierlaw01_NumGcd.j0 k a0 a1 a2 bt351.1 (decide (bt351.1 < 0))) else (pannierlaw01_NumGcd.j0 k a0 a1 a2 bt351.1 true)) else (pannierlaw01_NumGcd.j0 k a0 a1 a2 bt351.1 true)) else (pannierlaw01_NumGcd.j0 k a0 a1 a2 bt351.1 true)))) = some r := h
  clear h
  replace H := Option.bind_eq_some_iff.mp H
  obtain ⟨⟨t351, t352⟩, A40, H⟩ := H
  replace H : ((num_Gcd.f k (wrap64 (a1)) (wrap64 (a0))).bind fun bt353 => (if t352 = true then (if bt353.2 = true then (if t351 = bt353.1 then (pannierlaw01_NumGcd.j0 k a0 a1 a2 t351 (decide (t351 < 0))) else (pannierlaw01_NumGcd.j0 k a0 a1 a2 t351 true)) else (pannierlaw01_NumGcd.j0 k a0 a1 a2 t351 true)) else (pannierlaw01_NumGcd.j0 k a0 a1 a2 t351 true))) = some r := H
  have A4 := Aside0.mk A40
  clear A40
  replace H := Option.bind_eq_some_iff.mp H
  obtain ⟨⟨t353, t354⟩, A50, H⟩ := H
  replace H : (if t352 = true then (if t354 = true then (if t351 = t353 then (pannierlaw01_NumGcd.j0 k a0 a1 a2 t351 (decide (t351 < 0))) else (pannierlaw01_NumGcd.j0 k a0 a1 a2 t351 true)) else (pannierlaw01_NumGcd.j0 k a0 a1 a2 t351 true)) else (pannierlaw01_NumGcd.j0 k a0 a1 a2 t351 true)) = some r := H
  have A5 := Aside0.mk A50
  clear A50
  have HC6 := Aside0.mk H
  clear H
  go_enter Tryd.func10, Tryd.ntmps10
  go_upto_region 3 with (first | ((with_reducible refine gate_callee (f := 42) rfl ?_); refine goesL_ (some 17) rfl rfl Tryd.func42 (by kernel_rfl) rfl #[.int .i64 (wrap64 (a0)), .int .i64 (wrap64 (a1))] rfl (by (try simp only [List.map_toArray, List.map_cons, List.map_nil]); first | done | rfl | (simp only [List.length_drop, List.length_take]; rfl)) ?_; (with_reducible refine (num_Gcd.calls k (wrap64 (a0)) (wrap64 (a1)) t351 t352 _ A4.out).mono ?_); rintro e w' ⟨rfl, ⟨nd, rfl⟩⟩; refine ⟨_, rfl, ?_⟩) | ((with_reducible refine gate_callee (f := 42) rfl ?_); refine goesL_ (some 25) rfl rfl Tryd.func42 (by kernel_rfl) rfl #[.int .i64 (wrap64 (a1)), .int .i64 (wrap64 (a0))] rfl (by (try simp only [List.map_toArray, List.map_cons, List.map_nil]); first | done | rfl | (simp only [List.length_drop, List.length_take]; rfl)) ?_; (with_reducible refine (num_Gcd.calls k (wrap64 (a1)) (wrap64 (a0)) t353 t354 _ A5.out).mono ?_); rintro e w' ⟨rfl, ⟨nd, rfl⟩⟩; refine ⟨_, rfl, ?_⟩))
  (try simp only [Act.put, List.setIfInBounds_toArray, List.set_cons_zero, List.set_cons_succ])
  go_cut [42] (fun v42 wc => ∃ (kq : Nat) (x42_5 : Bool), v42 = .bool x42_5 ∧ Aside0 (pannierlaw01_NumGcd.j0 kq a0 a1 a2 t351 x42_5 = some r) ∧ Aside0 (kq ≤ k) ∧ Aside0 (Below w.heap.size w wc))
  case first =>
    have H := HC6.out
    clear HC6
    by_cases c7 : t352 = true
    · subst c7
      have H1 : (if t354 = true then (if t351 = t353 then (pannierlaw01_NumGcd.j0 k a0 a1 a2 t351 (decide (t351 < 0))) else (pannierlaw01_NumGcd.j0 k a0 a1 a2 t351 true)) else (pannierlaw01_NumGcd.j0 k a0 a1 a2 t351 true)) = some r := by rw [if_pos rfl] at H; exact H
      clear H
      have H := H1
      clear H1
      by_cases c8 : t354 = true
      · subst c8
        have H1 : (if t351 = t353 then (pannierlaw01_NumGcd.j0 k a0 a1 a2 t351 (decide (t351 < 0))) else (pannierlaw01_NumGcd.j0 k a0 a1 a2 t351 true)) = some r := by rw [if_pos rfl] at H; exact H
        clear H
        have H := H1
        clear H1
        by_cases c9 : t351 = t353
        · rw [if_pos c9] at H
          have c9b0 : (t351 == t353) = true := beq_iff_eq.mpr c9
          have c9b1 : (t351 != t353) = false := bne_eq_false_iff_eq.mpr c9
          clear c9
          (first | rw [c9b0] | (simp only [i64_w, i32_w]; rw [c9b0]) | skip)
          have H' := Aside0.mk H
          clear H
          go_wp2
          go_meet
          case rel => exact ⟨_, (decide (t351 < 0)), (by first | rfl | (simp; done) | (simp [*]; done)), H', ⟨by first | omega | exact Nat.le_refl _⟩, ⟨by repeat (first | (with_reducible first | exact HB.out | apply below_alloc | apply pw_below_drewN | apply below_drew1) | exact HB.out)⟩⟩
        · rw [if_neg c9] at H
          have c9b0 : (t351 == t353) = false := beq_eq_false_iff_ne.mpr c9
          have c9b1 : (t351 != t353) = true := bne_iff_ne.mpr c9
          (first | rw [c9b0] | (simp only [i64_w, i32_w]; rw [c9b0]) | skip)
          have H' := Aside0.mk H
          clear H
          go_wp2
          go_meet
          case rel => exact ⟨_, (true), (by first | rfl | (simp; done) | (simp [*]; done)), H', ⟨by first | omega | exact Nat.le_refl _⟩, ⟨by repeat (first | (with_reducible first | exact HB.out | apply below_alloc | apply pw_below_drewN | apply below_drew1) | exact HB.out)⟩⟩
      · replace c8 := Bool.eq_false_iff.mpr c8
        subst c8
        have H1 : (pannierlaw01_NumGcd.j0 k a0 a1 a2 t351 true) = some r := by rw [if_neg (show ¬ (false = true) by decide)] at H; exact H
        clear H
        have H := H1
        clear H1
        have H' := Aside0.mk H
        clear H
        go_wp2
        go_meet
        case rel => exact ⟨_, (true), (by first | rfl | (simp; done) | (simp [*]; done)), H', ⟨by first | omega | exact Nat.le_refl _⟩, ⟨by repeat (first | (with_reducible first | exact HB.out | apply below_alloc | apply pw_below_drewN | apply below_drew1) | exact HB.out)⟩⟩
    · replace c7 := Bool.eq_false_iff.mpr c7
      subst c7
      have H1 : (pannierlaw01_NumGcd.j0 k a0 a1 a2 t351 true) = some r := by rw [if_neg (show ¬ (false = true) by decide)] at H; exact H
      clear H
      have H := H1
      clear H1
      have H' := Aside0.mk H
      clear H
      go_wp2
      go_meet
      case rel => exact ⟨_, (true), (by first | rfl | (simp; done) | (simp [*]; done)), H', ⟨by first | omega | exact Nat.le_refl _⟩, ⟨by repeat (first | (with_reducible first | exact HB.out | apply below_alloc | apply pw_below_drewN | apply below_drew1) | exact HB.out)⟩⟩
  case rest =>
    clear HC6
    try clear c1
    try clear p2
    try clear c4
    try clear p6
    try clear c7
    try clear c8
    try clear c9
    try clear c9b0
    try clear c9b1
    obtain ⟨kq, x42_5, rfl, HA, HJ5, HB⟩ := hcut
    cases kq with
    | zero => exact absurd HA.out (by simp [pannierlaw01_NumGcd.j0])
    | succ kj5 =>
      have H := HA.out
      clear HA
      simp only [pannierlaw01_NumGcd.j0] at H
      by_cases c10 : x42_5 = true
      · subst c10
        have H1 : (none) = some r := by rw [if_pos rfl] at H; exact H
        clear H
        have H := H1
        clear H1
        exact absurd H (by simp)
      · replace c10 := Bool.eq_false_iff.mpr c10
        subst c10
        have H1 : (if t351 = 0 then (if a0 = 0 then (if a1 = 0 then ((pannierlaw01_wakes.f kj5).bind fun t355 => (some t355)) else (none)) else (none)) else (if (Int.tmod (wrap64 (a0)) t351) = 0 then (if (Int.tmod (wrap64 (a1)) t351) = 0 then (if (wrap64 ((wrap64 (a2)) + 1)) = 0 then (none) else (if (Int.tmod (wrap64 (a0)) (wrap64 ((wrap64 (a2)) + 1))) = 0 then (if (Int.tmod (wrap64 (a1)) (wrap64 ((wrap64 (a2)) + 1))) = 0 then (if (Int.tmod t351 (wrap64 ((wrap64 (a2)) + 1))) = 0 then ((pannierlaw01_wakes.f kj5).bind fun t356 => (some t356)) else (none)) else ((pannierlaw01_wakes.f kj5).bind fun t357 => (some t357))) else ((pannierlaw01_wakes.f kj5).bind fun t358 => (some t358)))) else (none)) else (none))) = some r := by rw [if_neg (show ¬ (false = true) by decide)] at H; exact H
        clear H
        have H := H1
        clear H1
        by_cases c11 : t351 = 0
        · rw [if_pos c11] at H
          have c11b0 : (t351 == 0) = true := beq_iff_eq.mpr c11
          have c11b1 : (t351 != 0) = false := bne_eq_false_iff_eq.mpr c11
          clear c11
          by_cases c12 : a0 = 0
          · rw [if_pos c12] at H
            have c12b0 : (a0 == 0) = true := beq_iff_eq.mpr c12
            have c12b1 : (a0 != 0) = false := bne_eq_false_iff_eq.mpr c12
            clear c12
            by_cases c13 : a1 = 0
            · rw [if_pos c13] at H
              have c13b0 : (a1 == 0) = true := beq_iff_eq.mpr c13
              have c13b1 : (a1 != 0) = false := bne_eq_false_iff_eq.mpr c13
              clear c13
              replace H := Option.bind_eq_some_iff.mp H
              obtain ⟨t355, A140, H⟩ := H
              replace H : (some t355) = some r := H
              have A14 := Aside0.mk A140
              clear A140
              obtain rfl := Option.some.inj H
              go_wp2_with (first | (go_at_call 34; (with_reducible refine (pannierlaw01_wakes.calls kj5  t355 _ ?side1 A14.out).mono ?_); (case side1 => exact gl_2_2 (by repeat (first | (with_reducible first | exact HB.out | apply below_alloc | apply pw_below_drewN | apply below_drew1) | exact HB.out)) hG); rintro e w15 ⟨rfl, hb⟩; have n0_ := Aside0.mk (below_step (by repeat (first | (with_reducible first | exact HB.out | apply below_alloc | apply pw_below_drewN | apply below_drew1) | exact HB.out)) hb); clear HB; have HB := n0_; clear n0_; (try clear hb); (try clear hb2); (try clear hk); (try clear hi)))
              go_ret
              exact ⟨by first | rfl | (simp [errW_none, errW_some] <;> rfl) | (simp [*, errW_none, errW_some] <;> rfl), by repeat (first | (with_reducible first | exact HB.out | apply below_alloc | apply pw_below_drewN | apply below_drew1) | exact HB.out)⟩
            · rw [if_neg c13] at H
              exact absurd H (by simp)
          · rw [if_neg c12] at H
            exact absurd H (by simp)
        · rw [if_neg c11] at H
          have c11b0 : (t351 == 0) = false := beq_eq_false_iff_ne.mpr c11
          have c11b1 : (t351 != 0) = true := bne_iff_ne.mpr c11
          by_cases c16 : (Int.tmod (wrap64 (a0)) t351) = 0
          · rw [if_pos c16] at H
            have c16b0 : ((Int.tmod (wrap64 (a0)) t351) == 0) = true := beq_iff_eq.mpr c16
            have c16b1 : ((Int.tmod (wrap64 (a0)) t351) != 0) = false := bne_eq_false_iff_eq.mpr c16
            clear c16
            by_cases c17 : (Int.tmod (wrap64 (a1)) t351) = 0
            · rw [if_pos c17] at H
              have c17b0 : ((Int.tmod (wrap64 (a1)) t351) == 0) = true := beq_iff_eq.mpr c17
              have c17b1 : ((Int.tmod (wrap64 (a1)) t351) != 0) = false := bne_eq_false_iff_eq.mpr c17
              clear c17
              by_cases c18 : (wrap64 ((wrap64 (a2)) + 1)) = 0
              · rw [if_pos c18] at H
                exact absurd H (by simp)
              · rw [if_neg c18] at H
                have c18b0 : ((wrap64 ((wrap64 (a2)) + 1)) == 0) = false := beq_eq_false_iff_ne.mpr c18
                have c18b1 : ((wrap64 ((wrap64 (a2)) + 1)) != 0) = true := bne_iff_ne.mpr c18
                by_cases c19 : (Int.tmod (wrap64 (a0)) (wrap64 ((wrap64 (a2)) + 1))) = 0
                · rw [if_pos c19] at H
                  have c19b0 : ((Int.tmod (wrap64 (a0)) (wrap64 ((wrap64 (a2)) + 1))) == 0) = true := beq_iff_eq.mpr c19
                  have c19b1 : ((Int.tmod (wrap64 (a0)) (wrap64 ((wrap64 (a2)) + 1))) != 0) = false := bne_eq_false_iff_eq.mpr c19
                  clear c19
                  by_cases c20 : (Int.tmod (wrap64 (a1)) (wrap64 ((wrap64 (a2)) + 1))) = 0
                  · rw [if_pos c20] at H
                    have c20b0 : ((Int.tmod (wrap64 (a1)) (wrap64 ((wrap64 (a2)) + 1))) == 0) = true := beq_iff_eq.mpr c20
                    have c20b1 : ((Int.tmod (wrap64 (a1)) (wrap64 ((wrap64 (a2)) + 1))) != 0) = false := bne_eq_false_iff_eq.mpr c20
                    clear c20
                    by_cases c21 : (Int.tmod t351 (wrap64 ((wrap64 (a2)) + 1))) = 0
                    · rw [if_pos c21] at H
                      have c21b0 : ((Int.tmod t351 (wrap64 ((wrap64 (a2)) + 1))) == 0) = true := beq_iff_eq.mpr c21
                      have c21b1 : ((Int.tmod t351 (wrap64 ((wrap64 (a2)) + 1))) != 0) = false := bne_eq_false_iff_eq.mpr c21
                      clear c21
                      replace H := Option.bind_eq_some_iff.mp H
                      obtain ⟨t356, A220, H⟩ := H
                      replace H : (some t356) = some r := H
                      have A22 := Aside0.mk A220
                      clear A220
                      obtain rfl := Option.some.inj H
                      go_wp2_with (first | (go_at_call 34; (with_reducible refine (pannierlaw01_wakes.calls kj5  t356 _ ?side1 A22.out).mono ?_); (case side1 => exact gl_2_2 (by repeat (first | (with_reducible first | exact HB.out | apply below_alloc | apply pw_below_drewN | apply below_drew1) | exact HB.out)) hG); rintro e w23 ⟨rfl, hb⟩; have n0_ := Aside0.mk (below_step (by repeat (first | (with_reducible first | exact HB.out | apply below_alloc | apply pw_below_drewN | apply below_drew1) | exact HB.out)) hb); clear HB; have HB := n0_; clear n0_; (try clear hb); (try clear hb2); (try clear hk); (try clear hi)))
                      go_ret
                      exact ⟨by first | rfl | (simp [errW_none, errW_some] <;> rfl) | (simp [*, errW_none, errW_some] <;> rfl), by repeat (first | (with_reducible first | exact HB.out | apply below_alloc | apply pw_below_drewN | apply below_drew1) | exact HB.out)⟩
                    · rw [if_neg c21] at H
                      exact absurd H (by simp)
                  · rw [if_neg c20] at H
                    have c20b0 : ((Int.tmod (wrap64 (a1)) (wrap64 ((wrap64 (a2)) + 1))) == 0) = false := beq_eq_false_iff_ne.mpr c20
                    have c20b1 : ((Int.tmod (wrap64 (a1)) (wrap64 ((wrap64 (a2)) + 1))) != 0) = true := bne_iff_ne.mpr c20
                    replace H := Option.bind_eq_some_iff.mp H
                    obtain ⟨t357, A240, H⟩ := H
                    replace H : (some t357) = some r := H
                    have A24 := Aside0.mk A240
                    clear A240
                    obtain rfl := Option.some.inj H
                    go_wp2_with (first | (go_at_call 34; (with_reducible refine (pannierlaw01_wakes.calls kj5  t357 _ ?side1 A24.out).mono ?_); (case side1 => exact gl_2_2 (by repeat (first | (with_reducible first | exact HB.out | apply below_alloc | apply pw_below_drewN | apply below_drew1) | exact HB.out)) hG); rintro e w25 ⟨rfl, hb⟩; have n0_ := Aside0.mk (below_step (by repeat (first | (with_reducible first | exact HB.out | apply below_alloc | apply pw_below_drewN | apply below_drew1) | exact HB.out)) hb); clear HB; have HB := n0_; clear n0_; (try clear hb); (try clear hb2); (try clear hk); (try clear hi)))
                    go_ret
                    exact ⟨by first | rfl | (simp [errW_none, errW_some] <;> rfl) | (simp [*, errW_none, errW_some] <;> rfl), by repeat (first | (with_reducible first | exact HB.out | apply below_alloc | apply pw_below_drewN | apply below_drew1) | exact HB.out)⟩
                · rw [if_neg c19] at H
                  have c19b0 : ((Int.tmod (wrap64 (a0)) (wrap64 ((wrap64 (a2)) + 1))) == 0) = false := beq_eq_false_iff_ne.mpr c19
                  have c19b1 : ((Int.tmod (wrap64 (a0)) (wrap64 ((wrap64 (a2)) + 1))) != 0) = true := bne_iff_ne.mpr c19
                  replace H := Option.bind_eq_some_iff.mp H
                  obtain ⟨t358, A260, H⟩ := H
                  replace H : (some t358) = some r := H
                  have A26 := Aside0.mk A260
                  clear A260
                  obtain rfl := Option.some.inj H
                  go_wp2_with (first | (go_at_call 34; (with_reducible refine (pannierlaw01_wakes.calls kj5  t358 _ ?side1 A26.out).mono ?_); (case side1 => exact gl_2_2 (by repeat (first | (with_reducible first | exact HB.out | apply below_alloc | apply pw_below_drewN | apply below_drew1) | exact HB.out)) hG); rintro e w27 ⟨rfl, hb⟩; have n0_ := Aside0.mk (below_step (by repeat (first | (with_reducible first | exact HB.out | apply below_alloc | apply pw_below_drewN | apply below_drew1) | exact HB.out)) hb); clear HB; have HB := n0_; clear n0_; (try clear hb); (try clear hb2); (try clear hk); (try clear hi)))
                  go_ret
                  exact ⟨by first | rfl | (simp [errW_none, errW_some] <;> rfl) | (simp [*, errW_none, errW_some] <;> rfl), by repeat (first | (with_reducible first | exact HB.out | apply below_alloc | apply pw_below_drewN | apply below_drew1) | exact HB.out)⟩
            · rw [if_neg c17] at H
              exact absurd H (by simp)
          · rw [if_neg c16] at H
            exact absurd H (by simp)

end Go.Proofs.YtohfidjbnmlfeaaDoor.P

namespace Go.Proofs.YtohfidjbnmlfeaaDoor.P
open Go.RowKit Go.Proofs.YtohfidjbnmlfeaaDoorW.PrintWords Go.Proofs.YtohfidjbnmlfeaaDoorW.PrintLast Go.Proofs.YtohfidjbnmlfeaaDoorW.PrintMore
attribute [local go_sem] max2_int min2_int max_two min_two max_three min_three max_four min_four   -- for this text's walks alone
set_option linter.unusedVariables false
set_option linter.unusedSimpArgs false

/-! ### pannierlaw01_NumPowers: function 11 -/
mutual
def pannierlaw01_NumPowers.j0 : Nat → Int → Int → Bool → Int → Bool → Int → Bool → Bool → Option (Bool)
  | 0, _, _, _, _, _, _, _, _ => none
  | k + 1, x0, x9, x10, x11, x12, x13, x14, x57 => if x57 = true then (if x10 = true then (pannierlaw01_NumPowers.j1 k x0 x9 x10 x11 x12 x13 x14 (!x12)) else (pannierlaw01_NumPowers.j1 k x0 x9 x10 x11 x12 x13 x14 true)) else (pannierlaw01_NumPowers.j2 k x0 x9 x10 x11 x12 x13 x14)
def pannierlaw01_NumPowers.j2 : Nat → Int → Int → Bool → Int → Bool → Int → Bool → Option (Bool)
  | 0, _, _, _, _, _, _, _ => none
  | k + 1, x0, x9, x10, x11, x12, x13, x14 => if x10 = true then (pannierlaw01_NumPowers.j3 k x0 x9 x11 x13 x14 x12) else (pannierlaw01_NumPowers.j3 k x0 x9 x11 x13 x14 false)
def pannierlaw01_NumPowers.j3 : Nat → Int → Int → Int → Int → Bool → Bool → Option (Bool)
  | 0, _, _, _, _, _, _ => none
  | k + 1, x0, x9, x11, x13, x14, x80 => if x80 = true then ((num_Mul.f k x9 x11).bind fun bt367 => (if (bt367.2 != x14) = true then (none) else (if bt367.2 = true then (if bt367.1 = x13 then (pannierlaw01_NumPowers.j4 k x0 x9) else (none)) else (pannierlaw01_NumPowers.j4 k x0 x9)))) else (pannierlaw01_NumPowers.j4 k x0 x9)
def pannierlaw01_NumPowers.j4 : Nat → Int → Int → Option (Bool)
  | 0, _, _ => none
  | k + 1, x0, x9 => (num_Add.f x0 x9).bind fun bt369 => ((num_Add.f x9 x0).bind fun bt371 => ((num_Mul.f k x0 x9).bind fun bt373 => ((num_Mul.f k x9 x0).bind fun bt375 => (if bt369.1 = bt371.1 then (if (bt369.2 == bt371.2) = true then (if bt373.1 = bt375.1 then (if (bt373.2 == bt375.2) = true then ((pannierlaw01_wakes.f k).bind fun t377 => (some t377)) else (none)) else (none)) else (none)) else (none)))))
def pannierlaw01_NumPowers.j1 : Nat → Int → Int → Bool → Int → Bool → Int → Bool → Bool → Option (Bool)
  | 0, _, _, _, _, _, _, _, _ => none
  | k + 1, x0, x9, x10, x11, x12, x13, x14, x63 => if x63 = true then (none) else ((num_Mul.f k x9 x11).bind fun bt365 => (if bt365.2 = true then (if bt365.1 = x13 then (pannierlaw01_NumPowers.j2 k x0 x9 x10 x11 x12 x13 x14) else (none)) else (none)))
end
def pannierlaw01_NumPowers.f (k : Nat) (a0 : Int) (a1 : Int) (a2 : Int) : Option (Bool) := (num_Pow.f k a0 (wrap64 (Int.tmod a1 40))).bind fun bt359 => ((num_Pow.f k a0 (wrap64 (Int.tmod a2 40))).bind fun bt361 => ((num_Pow.f k a0 (wrap64 ((wrap64 (Int.tmod a1 40)) + (wrap64 (Int.tmod a2 40))))).bind fun bt363 => (if bt363.2 = true then (pannierlaw01_NumPowers.j0 k a0 bt359.1 bt359.2 bt361.1 bt361.2 bt363.1 bt363.2 (a0 != 0)) else (pannierlaw01_NumPowers.j0 k a0 bt359.1 bt359.2 bt361.1 bt361.2 bt363.1 bt363.2 false))))
theorem pannierlaw01_NumPowers.mono_l : ∀ k, (∀ y0 y1 y2 y3 y4 y5 y6 y7, LeO (pannierlaw01_NumPowers.j0 k y0 y1 y2 y3 y4 y5 y6 y7) (pannierlaw01_NumPowers.j0 (k + 1) y0 y1 y2 y3 y4 y5 y6 y7)) ∧ (∀ y0 y1 y2 y3 y4 y5 y6, LeO (pannierlaw01_NumPowers.j2 k y0 y1 y2 y3 y4 y5 y6) (pannierlaw01_NumPowers.j2 (k + 1) y0 y1 y2 y3 y4 y5 y6)) ∧ (∀ y0 y1 y2 y3 y4 y5, LeO (pannierlaw01_NumPowers.j3 k y0 y1 y2 y3 y4 y5) (pannierlaw01_NumPowers.j3 (k + 1) y0 y1 y2 y3 y4 y5)) ∧ (∀ y0 y1, LeO (pannierlaw01_NumPowers.j4 k y0 y1) (pannierlaw01_NumPowers.j4 (k + 1) y0 y1)) ∧ (∀ y0 y1 y2 y3 y4 y5 y6 y7, LeO (pannierlaw01_NumPowers.j1 k y0 y1 y2 y3 y4 y5 y6 y7) (pannierlaw01_NumPowers.j1 (k + 1) y0 y1 y2 y3 y4 y5 y6 y7))
  | 0 => ⟨fun _ _ _ _ _ _ _ _ r h => by simp [pannierlaw01_NumPowers.j0] at h, fun _ _ _ _ _ _ _ r h => by simp [pannierlaw01_NumPowers.j2] at h, fun _ _ _ _ _ _ r h => by simp [pannierlaw01_NumPowers.j3] at h, fun _ _ r h => by simp [pannierlaw01_NumPowers.j4] at h, fun _ _ _ _ _ _ _ _ r h => by simp [pannierlaw01_NumPowers.j1] at h⟩
  | k + 1 => by
    obtain ⟨ih0, ih1, ih2, ih3, ih4⟩ := pannierlaw01_NumPowers.mono_l k
    refine ⟨?_, ?_, ?_, ?_, ?_⟩
    · intro y0 y1 y2 y3 y4 y5 y6 y7
      unfold pannierlaw01_NumPowers.j0
      repeat' first
      | (with_reducible exact ih0 _ _ _ _ _ _ _ _)
      | (with_reducible exact ih1 _ _ _ _ _ _ _)
      | (with_reducible exact ih2 _ _ _ _ _ _)
      | (with_reducible exact ih3 _ _)
      | (with_reducible exact ih4 _ _ _ _ _ _ _ _)
      | (with_reducible exact num_Mul.mono _ _ _)
      | (with_reducible exact num_Pow.mono _ _ _)
      | (with_reducible exact pannierlaw01_wakes.mono _)
      | (with_reducible exact LeO.refl _)
      | (with_reducible exact LeO.none _)
      | (with_reducible refine LeO.ite ?_ ?_)
      | (with_reducible refine LeO.bind ?_ (fun _ => ?_))
      | exact ih0 _ _ _ _ _ _ _ _
      | exact ih1 _ _ _ _ _ _ _
      | exact ih2 _ _ _ _ _ _
      | exact ih3 _ _
      | exact ih4 _ _ _ _ _ _ _ _
      | exact num_Mul.mono _ _ _
      | exact num_Pow.mono _ _ _
      | exact pannierlaw01_wakes.mono _
      | exact LeO.none _
      | refine LeO.ite ?_ ?_
      | refine LeO.bind ?_ (fun _ => ?_)
    · intro y0 y1 y2 y3 y4 y5 y6
      unfold pannierlaw01_NumPowers.j2
      repeat' first
      | (with_reducible exact ih0 _ _ _ _ _ _ _ _)
      | (with_reducible exact ih1 _ _ _ _ _ _ _)
      | (with_reducible exact ih2 _ _ _ _ _ _)
      | (with_reducible exact ih3 _ _)
      | (with_reducible exact ih4 _ _ _ _ _ _ _ _)
      | (with_reducible exact num_Mul.mono _ _ _)
      | (with_reducible exact num_Pow.mono _ _ _)
      | (with_reducible exact pannierlaw01_wakes.mono _)
      | (with_reducible exact LeO.refl _)
      | (with_reducible exact LeO.none _)
      | (with_reducible refine LeO.ite ?_ ?_)
      | (with_reducible refine LeO.bind ?_ (fun _ => ?_))
      | exact ih0 _ _ _ _ _ _ _ _
      | exact ih1 _ _ _ _ _ _ _
      | exact ih2 _ _ _ _ _ _
      | exact ih3 _ _
      | exact ih4 _ _ _ _ _ _ _ _
      | exact num_Mul.mono _ _ _
      | exact num_Pow.mono _ _ _
      | exact pannierlaw01_wakes.mono _
      | exact LeO.none _
      | refine LeO.ite ?_ ?_
      | refine LeO.bind ?_ (fun _ => ?_)
    · intro y0 y1 y2 y3 y4 y5
      unfold pannierlaw01_NumPowers.j3
      repeat' first
      | (with_reducible exact ih0 _ _ _ _ _ _ _ _)
      | (with_reducible exact ih1 _ _ _ _ _ _ _)
      | (with_reducible exact ih2 _ _ _ _ _ _)
      | (with_reducible exact ih3 _ _)
      | (with_reducible exact ih4 _ _ _ _ _ _ _ _)
      | (with_reducible exact num_Mul.mono _ _ _)
      | (with_reducible exact num_Pow.mono _ _ _)
      | (with_reducible exact pannierlaw01_wakes.mono _)
      | (with_reducible exact LeO.refl _)
      | (with_reducible exact LeO.none _)
      | (with_reducible refine LeO.ite ?_ ?_)
      | (with_reducible refine LeO.bind ?_ (fun _ => ?_))
      | exact ih0 _ _ _ _ _ _ _ _
      | exact ih1 _ _ _ _ _ _ _
      | exact ih2 _ _ _ _ _ _
      | exact ih3 _ _
      | exact ih4 _ _ _ _ _ _ _ _
      | exact num_Mul.mono _ _ _
      | exact num_Pow.mono _ _ _
      | exact pannierlaw01_wakes.mono _
      | exact LeO.none _
      | refine LeO.ite ?_ ?_
      | refine LeO.bind ?_ (fun _ => ?_)
    · intro y0 y1
      unfold pannierlaw01_NumPowers.j4
      repeat' first
      | (with_reducible exact ih0 _ _ _ _ _ _ _ _)
      | (with_reducible exact ih1 _ _ _ _ _ _ _)
      | (with_reducible exact ih2 _ _ _ _ _ _)
      | (with_reducible exact ih3 _ _)
      | (with_reducible exact ih4 _ _ _ _ _ _ _ _)
      | (with_reducible exact num_Mul.mono _ _ _)
      | (with_reducible exact num_Pow.mono _ _ _)
      | (with_reducible exact pannierlaw01_wakes.mono _)
      | (with_reducible exact LeO.refl _)
      | (with_reducible exact LeO.none _)
      | (with_reducible refine LeO.ite ?_ ?_)
      | (with_reducible refine LeO.bind ?_ (fun _ => ?_))
      | exact ih0 _ _ _ _ _ _ _ _
      | exact ih1 _ _ _ _ _ _ _
      | exact ih2 _ _ _ _ _ _
      | exact ih3 _ _
      | exact ih4 _ _ _ _ _ _ _ _
      | exact num_Mul.mono _ _ _
      | exact num_Pow.mono _ _ _
      | exact pannierlaw01_wakes.mono _
      | exact LeO.none _
      | refine LeO.ite ?_ ?_
      | refine LeO.bind ?_ (fun _ => ?_)
    · intro y0 y1 y2 y3 y4 y5 y6 y7
      unfold pannierlaw01_NumPowers.j1
      repeat' first
      | (with_reducible exact ih0 _ _ _ _ _ _ _ _)
      | (with_reducible exact ih1 _ _ _ _ _ _ _)
      | (with_reducible exact ih2 _ _ _ _ _ _)
      | (with_reducible exact ih3 _ _)
      | (with_reducible exact ih4 _ _ _ _ _ _ _ _)
      | (with_reducible exact num_Mul.mono _ _ _)
      | (with_reducible exact num_Pow.mono _ _ _)
      | (with_reducible exact pannierlaw01_wakes.mono _)
      | (with_reducible exact LeO.refl _)
      | (with_reducible exact LeO.none _)
      | (with_reducible refine LeO.ite ?_ ?_)
      | (with_reducible refine LeO.bind ?_ (fun _ => ?_))
      | exact ih0 _ _ _ _ _ _ _ _
      | exact ih1 _ _ _ _ _ _ _
      | exact ih2 _ _ _ _ _ _
      | exact ih3 _ _
      | exact ih4 _ _ _ _ _ _ _ _
      | exact num_Mul.mono _ _ _
      | exact num_Pow.mono _ _ _
      | exact pannierlaw01_wakes.mono _
      | exact LeO.none _
      | refine LeO.ite ?_ ?_
      | refine LeO.bind ?_ (fun _ => ?_)
theorem pannierlaw01_NumPowers.mono : ∀ a0 a1 a2 k, LeO (pannierlaw01_NumPowers.f k a0 a1 a2) (pannierlaw01_NumPowers.f (k + 1) a0 a1 a2) := by
  intro a0 a1 a2 k
  obtain ⟨ih0, ih1, ih2, ih3, ih4⟩ := pannierlaw01_NumPowers.mono_l k
  unfold pannierlaw01_NumPowers.f
  repeat' first
      | (with_reducible exact ih0 _ _ _ _ _ _ _ _)
      | (with_reducible exact ih1 _ _ _ _ _ _ _)
      | (with_reducible exact ih2 _ _ _ _ _ _)
      | (with_reducible exact ih3 _ _)
      | (with_reducible exact ih4 _ _ _ _ _ _ _ _)
      | (with_reducible exact num_Mul.mono _ _ _)
      | (with_reducible exact num_Pow.mono _ _ _)
      | (with_reducible exact pannierlaw01_wakes.mono _)
      | (with_reducible exact LeO.refl _)
      | (with_reducible exact LeO.none _)
      | (with_reducible refine LeO.ite ?_ ?_)
      | (with_reducible refine LeO.bind ?_ (fun _ => ?_))
      | exact ih0 _ _ _ _ _ _ _ _
      | exact ih1 _ _ _ _ _ _ _
      | exact ih2 _ _ _ _ _ _
      | exact ih3 _ _
      | exact ih4 _ _ _ _ _ _ _ _
      | exact num_Mul.mono _ _ _
      | exact num_Pow.mono _ _ _
      | exact pannierlaw01_wakes.mono _
      | exact LeO.none _
      | refine LeO.ite ?_ ?_
      | refine LeO.bind ?_ (fun _ => ?_)
set_option maxHeartbeats 8000000 in
set_option maxRecDepth 100000 in
theorem pannierlaw01_NumPowers.calls (k : Nat) (a0 : Int) (a1 : Int) (a2 : Int) (r : Bool) (w : World) (hG : G2 w) (h : pannierlaw01_NumPowers.f k a0 a1 a2 = some r) :
    Calls Tryd.prog 11 #[.int .i64 a0, .int .u8 a1, .int .u8 a2] w fun e w' => e = .returned (.bool r) ∧ Below w.heap.size w w' := by
  have HB := Aside0.mk (Below.refl w.heap.size w)
  have H : ((num_Pow.f k a0 (wrap64 (Int.tmod a1 40))).bind fun bt359 => ((num_Pow.f k a0 (wrap64 (Int.tmod a2 40))).bind fun bt361 => ((num_Pow.f k a0 (wrap64 ((wrap64 (Int.tmod a1 40)) + (wrap64 (Int.tmod a2 40))))).bind fun bt363 => (if bt363.2 = true then (pannierlaw01_NumPowers.j0 k a0 bt359.1 bt359.2 bt361.1 bt361.2 bt363.1 bt363.2 (a0 != 0)) else (pannierlaw01_NumPowers.j0 k a0 bt359.1 bt359.2 bt361.1 bt361.2 bt363.1 bt363.2 false))))) = some r := h
  clear h
  replace H := Option.bind_eq_some_iff.mp H
  obtain ⟨⟨t359, t360⟩, A40, H⟩ := H
  replace H : ((num_Pow.f k a0 (wrap64 (Int.tmod a2 40))).bind fun bt361 => ((num_Pow.f k a0 (wrap64 ((wrap64 (Int.tmod a1 40)) + (wrap64 (Int.tmod a2 40))))).bind fun bt363 => (if bt363.2 = true then (pannierlaw01_NumPowers.j0 k a0 t359 t360 bt361.1 bt361.2 bt363.1 bt363.2 (a0 != 0)) else (pannierlaw01_NumPowers.j0 k a0 t359 t360 bt361.1 bt361.2 bt363.1 bt363.2 false)))) = some r := H
  have A4 := Aside0.mk A40
  clear A40
  replace H := Option.bind_eq_some_iff.mp H
  obtain ⟨⟨t361, t362⟩, A50, H⟩ := H
  replace H : ((num_Pow.f k a0 (wrap64 ((wrap64 (Int.tmod a1 40)) + (wrap64 (Int.tmod a2 40))))).bind fun bt363 => (if bt363.2 = true then (pannierlaw01_NumPowers.j0 k a0 t359 t360 t361 t362 bt363.1 bt363.2 (a0 != 0)) else (pannierlaw01_NumPowers.j0 k a0 t359 t360 t361 t362 bt363.1 bt363.2 false))) = some r := H
  have A5 := Aside0.mk A50
  clear A50
  replace H := Option.bind_eq_some_iff.mp H
  obtain ⟨⟨t363, t364⟩, A60, H⟩ := H
  replace H : (if t364 = true then (pannierlaw01_NumPowers.j0 k a0 t359 t360 t361 t362 t363 t364 (a0 != 0)) else (pannierlaw01_NumPowers.j0 k a0 t359 t360 t361 t362 t363 t364 false)) = some r := H
  have A6 := Aside0.mk A60
  clear A60
  have HC7 := Aside0.mk H
  clear H
  go_enter Tryd.func11, Tryd.ntmps11
  go_upto_region 5 with (first | ((with_reducible refine gate_callee (f := 41) rfl ?_); refine goesL_ (some 36) rfl rfl Tryd.func41 (by kernel_rfl) rfl #[.int .i64 a0, .int .i64 (wrap64 (Int.tmod a1 40))] rfl (by (try simp only [List.map_toArray, List.map_cons, List.map_nil]); first | done | rfl | (simp only [List.length_drop, List.length_take]; rfl)) ?_; (with_reducible refine (num_Pow.calls k a0 (wrap64 (Int.tmod a1 40)) t359 t360 _ A4.out).mono ?_); rintro e w8 ⟨rfl, hb⟩; refine ⟨_, rfl, ?_⟩; have n0_ := Aside0.mk (below_step (by repeat (first | (with_reducible first | exact HB.out | apply below_alloc | apply pw_below_drewN | apply below_drew1) | exact HB.out)) hb); clear HB; have HB := n0_; clear n0_; (try clear hb); (try clear hb2); (try clear hk); (try clear hi)) | ((with_reducible refine gate_callee (f := 41) rfl ?_); refine goesL_ (some 42) rfl rfl Tryd.func41 (by kernel_rfl) rfl #[.int .i64 a0, .int .i64 (wrap64 (Int.tmod a2 40))] rfl (by (try simp only [List.map_toArray, List.map_cons, List.map_nil]); first | done | rfl | (simp only [List.length_drop, List.length_take]; rfl)) ?_; (with_reducible refine (num_Pow.calls k a0 (wrap64 (Int.tmod a2 40)) t361 t362 _ A5.out).mono ?_); rintro e w9 ⟨rfl, hb⟩; refine ⟨_, rfl, ?_⟩; have n0_ := Aside0.mk (below_step (by repeat (first | (with_reducible first | exact HB.out | apply below_alloc | apply pw_below_drewN | apply below_drew1) | exact HB.out)) hb); clear HB; have HB := n0_; clear n0_; (try clear hb); (try clear hb2); (try clear hk); (try clear hi)) | ((with_reducible refine gate_callee (f := 41) rfl ?_); refine goesL_ (some 50) rfl rfl Tryd.func41 (by kernel_rfl) rfl #[.int .i64 a0, .int .i64 (wrap64 ((wrap64 (Int.tmod a1 40)) + (wrap64 (Int.tmod a2 40))))] rfl (by (try simp only [List.map_toArray, List.map_cons, List.map_nil]); first | done | rfl | (simp only [List.length_drop, List.length_take]; rfl)) ?_; (with_reducible refine (num_Pow.calls k a0 (wrap64 ((wrap64 (Int.tmod a1 40)) + (wrap64 (Int.tmod a2 40)))) t363 t364 _ A6.out).mono ?_); rintro e w10 ⟨rfl, hb⟩; refine ⟨_, rfl, ?_⟩; have n0_ := Aside0.mk (below_step (by repeat (first | (with_reducible first | exact HB.out | apply below_alloc | apply pw_below_drewN | apply below_drew1) | exact HB.out)) hb); clear HB; have HB := n0_; clear n0_; (try clear hb); (try clear hb2); (try clear hk); (try clear hi)))
  (try simp only [Act.put, List.setIfInBounds_toArray, List.set_cons_zero, List.set_cons_succ])
  go_cut [57] (fun v57 wc => ∃ (kq : Nat) (x57_6 : Bool), v57 = .bool x57_6 ∧ Aside0 (pannierlaw01_NumPowers.j0 kq a0 t359 t360 t361 t362 t363 t364 x57_6 = some r) ∧ Aside0 (kq ≤ k) ∧ Aside0 (Below w.heap.size w wc))
  case first =>
    have H := HC7.out
    clear HC7
    by_cases c11 : t364 = true
    · subst c11
      have H1 : (pannierlaw01_NumPowers.j0 k a0 t359 t360 t361 t362 t363 true (a0 != 0)) = some r := by rw [if_pos rfl] at H; exact H
      clear H
      have H := H1
      clear H1
      have H' := Aside0.mk H
      clear H
      go_wp2
      go_meet
      case rel => exact ⟨_, ((a0 != 0)), (by first | rfl | (simp; done) | (simp [*]; done)), H', ⟨by first | omega | exact Nat.le_refl _⟩, ⟨by repeat (first | (with_reducible first | exact HB.out | apply below_alloc | apply pw_below_drewN | apply below_drew1) | exact HB.out)⟩⟩
    · replace c11 := Bool.eq_false_iff.mpr c11
      subst c11
      have H1 : (pannierlaw01_NumPowers.j0 k a0 t359 t360 t361 t362 t363 false false) = some r := by rw [if_neg (show ¬ (false = true) by decide)] at H; exact H
      clear H
      have H := H1
      clear H1
      have H' := Aside0.mk H
      clear H
      go_wp2
      go_meet
      case rel => exact ⟨_, (false), (by first | rfl | (simp; done) | (simp [*]; done)), H', ⟨by first | omega | exact Nat.le_refl _⟩, ⟨by repeat (first | (with_reducible first | exact HB.out | apply below_alloc | apply pw_below_drewN | apply below_drew1) | exact HB.out)⟩⟩
  case rest =>
    clear HC7
    try clear c1
    try clear p2
    try clear c4
    try clear p6
    try clear c11
    obtain ⟨kq, x57_6, rfl, HA, HJ6, HB⟩ := hcut
    cases kq with
    | zero => exact absurd HA.out (by simp [pannierlaw01_NumPowers.j0])
    | succ kj6 =>
      have H := HA.out
      clear HA
      simp only [pannierlaw01_NumPowers.j0] at H
      have HC12 := Aside0.mk H
      clear H
      go_upto_if 57 with (fail)
      go_cut [] (fun wc => ∃ (kq : Nat), Aside0 (pannierlaw01_NumPowers.j2 kq a0 t359 t360 t361 t362 t363 t364 = some r) ∧ Aside0 (kq ≤ kj6) ∧ Aside0 (Below w.heap.size w wc))
      case first =>
        have H := HC12.out
        clear HC12
        by_cases c13 : x57_6 = true
        · subst c13
          have H1 : (if t360 = true then (pannierlaw01_NumPowers.j1 kj6 a0 t359 t360 t361 t362 t363 t364 (!t362)) else (pannierlaw01_NumPowers.j1 kj6 a0 t359 t360 t361 t362 t363 t364 true)) = some r := by rw [if_pos rfl] at H; exact H
          clear H
          have H := H1
          clear H1
          have HC14 := Aside0.mk H
          clear H
          go_upto_region 6 with (fail)
          go_cut [63] (fun v63 wc => ∃ (kq : Nat) (x63_13 : Bool), v63 = .bool x63_13 ∧ Aside0 (pannierlaw01_NumPowers.j1 kq a0 t359 t360 t361 t362 t363 t364 x63_13 = some r) ∧ Aside0 (kq ≤ kj6) ∧ Aside0 (Below w.heap.size w wc))
          case first =>
            have H := HC14.out
            clear HC14
            by_cases c15 : t360 = true
            · subst c15
              have H1 : (pannierlaw01_NumPowers.j1 kj6 a0 t359 true t361 t362 t363 t364 (!t362)) = some r := by rw [if_pos rfl] at H; exact H
              clear H
              have H := H1
              clear H1
              have H' := Aside0.mk H
              clear H
              go_wp2
              go_meet
              case rel => exact ⟨_, (!t362), (by first | rfl | (simp; done) | (simp [*]; done)), H', ⟨by have := HJ6.out; first | omega | exact Nat.le_refl _⟩, ⟨by repeat (first | (with_reducible first | exact HB.out | apply below_alloc | apply pw_below_drewN | apply below_drew1) | exact HB.out)⟩⟩
            · replace c15 := Bool.eq_false_iff.mpr c15
              subst c15
              have H1 : (pannierlaw01_NumPowers.j1 kj6 a0 t359 false t361 t362 t363 t364 true) = some r := by rw [if_neg (show ¬ (false = true) by decide)] at H; exact H
              clear H
              have H := H1
              clear H1
              have H' := Aside0.mk H
              clear H
              go_wp2
              go_meet
              case rel => exact ⟨_, (true), (by first | rfl | (simp; done) | (simp [*]; done)), H', ⟨by have := HJ6.out; first | omega | exact Nat.le_refl _⟩, ⟨by repeat (first | (with_reducible first | exact HB.out | apply below_alloc | apply pw_below_drewN | apply below_drew1) | exact HB.out)⟩⟩
          case rest =>
            clear HC14
            try clear c1
            try clear p2
            try clear c4
            try clear p6
            try clear c11
            try clear c13
            try clear c15
            try clear p2
            try clear p6
            obtain ⟨kq, x63_13, rfl, HA, HJ13, HB⟩ := hcut
            cases kq with
            | zero => exact absurd HA.out (by simp [pannierlaw01_NumPowers.j1])
            | succ kj13 =>
              have H := HA.out
              clear HA
              simp only [pannierlaw01_NumPowers.j1] at H
              by_cases c16 : x63_13 = true
              · subst c16
                have H1 : (none) = some r := by rw [if_pos rfl] at H; exact H
                clear H
                have H := H1
                clear H1
                exact absurd H (by simp)
              · replace c16 := Bool.eq_false_iff.mpr c16
                subst c16
                have H1 : ((num_Mul.f kj13 t359 t361).bind fun bt365 => (if bt365.2 = true then (if bt365.1 = t363 then (pannierlaw01_NumPowers.j2 kj13 a0 t359 t360 t361 t362 t363 t364) else (none)) else (none))) = some r := by rw [if_neg (show ¬ (false = true) by decide)] at H; exact H
                clear H
                have H := H1
                clear H1
                replace H := Option.bind_eq_some_iff.mp H
                obtain ⟨⟨t365, t366⟩, A170, H⟩ := H
                replace H : (if t366 = true then (if t365 = t363 then (pannierlaw01_NumPowers.j2 kj13 a0 t359 t360 t361 t362 t363 t364) else (none)) else (none)) = some r := H
                have A17 := Aside0.mk A170
                clear A170
                by_cases c18 : t366 = true
                · subst c18
                  have H1 : (if t365 = t363 then (pannierlaw01_NumPowers.j2 kj13 a0 t359 t360 t361 t362 t363 t364) else (none)) = some r := by rw [if_pos rfl] at H; exact H
                  clear H
                  have H := H1
                  clear H1
                  by_cases c19 : t365 = t363
                  · rw [if_pos c19] at H
                    have c19b0 : (t365 == t363) = true := beq_iff_eq.mpr c19
                    have c19b1 : (t365 != t363) = false := bne_eq_false_iff_eq.mpr c19
                    clear c19
                    have H' := Aside0.mk H
                    clear H
                    go_wp2_with (first | ((with_reducible refine gate_callee (f := 47) rfl ?_); refine goesL_ (some 67) rfl rfl Tryd.func47 (by kernel_rfl) rfl #[.int .i64 t359, .int .i64 t361] rfl (by (try simp only [List.map_toArray, List.map_cons, List.map_nil]); first | done | rfl | (simp only [List.length_drop, List.length_take]; rfl)) ?_; (with_reducible refine (num_Mul.calls kj13 t359 t361 t365 true _ A17.out).mono ?_); rintro e w' ⟨rfl, ⟨nd, rfl⟩⟩; refine ⟨_, rfl, ?_⟩))
                    go_meet
                    case rel => exact ⟨_, H', ⟨by have := HJ6.out; have := HJ13.out; first | omega | exact Nat.le_refl _⟩, ⟨by repeat (first | (with_reducible first | exact HB.out | apply below_alloc | apply pw_below_drewN | apply below_drew1) | exact HB.out)⟩⟩
                  · rw [if_neg c19] at H
                    exact absurd H (by simp)
                · replace c18 := Bool.eq_false_iff.mpr c18
                  subst c18
                  have H1 : (none) = some r := by rw [if_neg (show ¬ (false = true) by decide)] at H; exact H
                  clear H
                  have H := H1
                  clear H1
                  exact absurd H (by simp)
        · replace c13 := Bool.eq_false_iff.mpr c13
          subst c13
          have H1 : (pannierlaw01_NumPowers.j2 kj6 a0 t359 t360 t361 t362 t363 t364) = some r := by rw [if_neg (show ¬ (false = true) by decide)] at H; exact H
          clear H
          have H := H1
          clear H1
          have H' := Aside0.mk H
          clear H
          go_wp2
          go_meet
          case rel => exact ⟨_, H', ⟨by have := HJ6.out; first | omega | exact Nat.le_refl _⟩, ⟨by repeat (first | (with_reducible first | exact HB.out | apply below_alloc | apply pw_below_drewN | apply below_drew1) | exact HB.out)⟩⟩
      case rest =>
        clear HC12
        try clear c1
        try clear p2
        try clear c4
        try clear p6
        try clear c11
        try clear c13
        try clear c15
        try clear c16
        try clear c18
        try clear c19
        try clear c19b0
        try clear c19b1
        try clear p2
        try clear p6
        obtain ⟨kq, HA, HJ11, HB⟩ := hcut
        cases kq with
        | zero => exact absurd HA.out (by simp [pannierlaw01_NumPowers.j2])
        | succ kj11 =>
          have H := HA.out
          clear HA
          simp only [pannierlaw01_NumPowers.j2] at H
          have HC20 := Aside0.mk H
          clear H
          go_upto_region 11 with (fail)
          go_cut [80] (fun v80 wc => ∃ (kq : Nat) (x80_19 : Bool), v80 = .bool x80_19 ∧ Aside0 (pannierlaw01_NumPowers.j3 kq a0 t359 t361 t363 t364 x80_19 = some r) ∧ Aside0 (kq ≤ kj11) ∧ Aside0 (Below w.heap.size w wc))
          case first =>
            have H := HC20.out
            clear HC20
            by_cases c21 : t360 = true
            · subst c21
              have H1 : (pannierlaw01_NumPowers.j3 kj11 a0 t359 t361 t363 t364 t362) = some r := by rw [if_pos rfl] at H; exact H
              clear H
              have H := H1
              clear H1
              have H' := Aside0.mk H
              clear H
              go_wp2
              go_meet
              case rel => exact ⟨_, (t362), (by first | rfl | (simp; done) | (simp [*]; done)), H', ⟨by have := HJ6.out; have := HJ11.out; first | omega | exact Nat.le_refl _⟩, ⟨by repeat (first | (with_reducible first | exact HB.out | apply below_alloc | apply pw_below_drewN | apply below_drew1) | exact HB.out)⟩⟩
            · replace c21 := Bool.eq_false_iff.mpr c21
              subst c21
              have H1 : (pannierlaw01_NumPowers.j3 kj11 a0 t359 t361 t363 t364 false) = some r := by rw [if_neg (show ¬ (false = true) by decide)] at H; exact H
              clear H
              have H := H1
              clear H1
              have H' := Aside0.mk H
              clear H
              go_wp2
              go_meet
              case rel => exact ⟨_, (false), (by first | rfl | (simp; done) | (simp [*]; done)), H', ⟨by have := HJ6.out; have := HJ11.out; first | omega | exact Nat.le_refl _⟩, ⟨by repeat (first | (with_reducible first | exact HB.out | apply below_alloc | apply pw_below_drewN | apply below_drew1) | exact HB.out)⟩⟩
          case rest =>
            clear HC20
            try clear c1
            try clear c2
            try clear p2
            try clear c4
            try clear p6
            try clear c11
            try clear c13
            try clear c15
            try clear c16
            try clear c18
            try clear c19
            try clear c19b0
            try clear c19b1
            try clear c21
            try clear p2
            try clear p6
            obtain ⟨kq, x80_19, rfl, HA, HJ19, HB⟩ := hcut
            cases kq with
            | zero => exact absurd HA.out (by simp [pannierlaw01_NumPowers.j3])
            | succ kj19 =>
              have H := HA.out
              clear HA
              simp only [pannierlaw01_NumPowers.j3] at H
              have HC22 := Aside0.mk H
              clear H
              go_upto_if 80 with (fail)
              go_cut [] (fun wc => ∃ (kq : Nat), Aside0 (pannierlaw01_NumPowers.j4 kq a0 t359 = some r) ∧ Aside0 (kq ≤ kj19) ∧ Aside0 (Below w.heap.size w wc))
              case first =>
                have H := HC22.out
                clear HC22
                by_cases c23 : x80_19 = true
                · subst c23
                  have H1 : ((num_Mul.f kj19 t359 t361).bind fun bt367 => (if (bt367.2 != t364) = true then (none) else (if bt367.2 = true then (if bt367.1 = t363 then (pannierlaw01_NumPowers.j4 kj19 a0 t359) else (none)) else (pannierlaw01_NumPowers.j4 kj19 a0 t359)))) = some r := by rw [if_pos rfl] at H; exact H
                  clear H
                  have H := H1
                  clear H1
                  replace H := Option.bind_eq_some_iff.mp H
                  obtain ⟨⟨t367, t368⟩, A240, H⟩ := H
                  replace H : (if (t368 != t364) = true then (none) else (if t368 = true then (if t367 = t363 then (pannierlaw01_NumPowers.j4 kj19 a0 t359) else (none)) else (pannierlaw01_NumPowers.j4 kj19 a0 t359))) = some r := H
                  have A24 := Aside0.mk A240
                  clear A240
                  by_cases c25 : (t368 != t364) = true
                  · rw [if_pos c25] at H
                    exact absurd H (by simp)
                  · rw [if_neg c25] at H
                    have c25b0 : (t368 != t364) = false := by simpa using c25
                    (try (have c25b1 : decide (t368 = t364) = true := by simpa using c25))
                    (try (have c25b2 : (t368 == t364) = true := by simpa using c25))
                    clear c25
                    (first | rw [c25b0] | (simp only [i64_w, i32_w]; rw [c25b0]) | skip)
                    by_cases c26 : t368 = true
                    · subst c26
                      have H1 : (if t367 = t363 then (pannierlaw01_NumPowers.j4 kj19 a0 t359) else (none)) = some r := by rw [if_pos rfl] at H; exact H
                      clear H
                      have H := H1
                      clear H1
                      by_cases c27 : t367 = t363
                      · rw [if_pos c27] at H
                        have c27b0 : (t367 == t363) = true := beq_iff_eq.mpr c27
                        have c27b1 : (t367 != t363) = false := bne_eq_false_iff_eq.mpr c27
                        clear c27
                        have H' := Aside0.mk H
                        clear H
                        go_wp2_with (first | ((with_reducible refine gate_callee (f := 47) rfl ?_); refine goesL_ (some 84) rfl rfl Tryd.func47 (by kernel_rfl) rfl #[.int .i64 t359, .int .i64 t361] rfl (by (try simp only [List.map_toArray, List.map_cons, List.map_nil]); first | done | rfl | (simp only [List.length_drop, List.length_take]; rfl)) ?_; (with_reducible refine (num_Mul.calls kj19 t359 t361 t367 true _ A24.out).mono ?_); rintro e w' ⟨rfl, ⟨nd, rfl⟩⟩; refine ⟨_, rfl, ?_⟩))
                        go_meet
                        case rel => exact ⟨_, H', ⟨by have := HJ6.out; have := HJ11.out; have := HJ19.out; first | omega | exact Nat.le_refl _⟩, ⟨by repeat (first | (with_reducible first | exact HB.out | apply below_alloc | apply pw_below_drewN | apply below_drew1) | exact HB.out)⟩⟩
                      · rw [if_neg c27] at H
                        exact absurd H (by simp)
                    · replace c26 := Bool.eq_false_iff.mpr c26
                      subst c26
                      have H1 : (pannierlaw01_NumPowers.j4 kj19 a0 t359) = some r := by rw [if_neg (show ¬ (false = true) by decide)] at H; exact H
                      clear H
                      have H := H1
                      clear H1
                      have H' := Aside0.mk H
                      clear H
                      go_wp2_with (first | ((with_reducible refine gate_callee (f := 47) rfl ?_); refine goesL_ (some 84) rfl rfl Tryd.func47 (by kernel_rfl) rfl #[.int .i64 t359, .int .i64 t361] rfl (by (try simp only [List.map_toArray, List.map_cons, List.map_nil]); first | done | rfl | (simp only [List.length_drop, List.length_take]; rfl)) ?_; (with_reducible refine (num_Mul.calls kj19 t359 t361 t367 false _ A24.out).mono ?_); rintro e w' ⟨rfl, ⟨nd, rfl⟩⟩; refine ⟨_, rfl, ?_⟩))
                      go_meet
                      case rel => exact ⟨_, H', ⟨by have := HJ6.out; have := HJ11.out; have := HJ19.out; first | omega | exact Nat.le_refl _⟩, ⟨by repeat (first | (with_reducible first | exact HB.out | apply below_alloc | apply pw_below_drewN | apply below_drew1) | exact HB.out)⟩⟩
                · replace c23 := Bool.eq_false_iff.mpr c23
                  subst c23
                  have H1 : (pannierlaw01_NumPowers.j4 kj19 a0 t359) = some r := by rw [if_neg (show ¬ (false = true) by decide)] at H; exact H
                  clear H
                  have H := H1
                  clear H1
                  have H' := Aside0.mk H
                  clear H
                  go_wp2
                  go_meet
                  case rel => exact ⟨_, H', ⟨by have := HJ6.out; have := HJ11.out; have := HJ19.out; first | omega | exact Nat.le_refl _⟩, ⟨by repeat (first | (with_reducible first | exact HB.out | apply below_alloc | apply pw_below_drewN | apply below_drew1) | exact HB.out)⟩⟩
              case rest =>
                clear HC22
                try clear c1
                try clear c2
                try clear p2
                try clear c4
                try clear p6
                try clear c11
                try clear c13
                try clear c15
                try clear c16
                try clear c18
                try clear c19
                try clear c19b0
                try clear c19b1
                try clear c21
                try clear c23
                try clear c25
                try clear c25b0
                try clear c25b1
                try clear c25b2
                try clear c26
                try clear c27
                try clear c27b0
                try clear c27b1
                try clear p2
                try clear p6
                obtain ⟨kq, HA, HJ21, HB⟩ := hcut
                cases kq with
                | zero => exact absurd HA.out (by simp [pannierlaw01_NumPowers.j4])
                | succ kj21 =>
                  have H := HA.out
                  clear HA
                  simp only [pannierlaw01_NumPowers.j4] at H
                  replace H := Option.bind_eq_some_iff.mp H
                  obtain ⟨⟨t369, t370⟩, A280, H⟩ := H
                  replace H : ((num_Add.f t359 a0).bind fun bt371 => ((num_Mul.f kj21 a0 t359).bind fun bt373 => ((num_Mul.f kj21 t359 a0).bind fun bt375 => (if t369 = bt371.1 then (if (t370 == bt371.2) = true then (if bt373.1 = bt375.1 then (if (bt373.2 == bt375.2) = true then ((pannierlaw01_wakes.f kj21).bind fun t377 => (some t377)) else (none)) else (none)) else (none)) else (none))))) = some r := H
                  have A28 := Aside0.mk A280
                  clear A280
                  replace H := Option.bind_eq_some_iff.mp H
                  obtain ⟨⟨t371, t372⟩, A290, H⟩ := H
                  replace H : ((num_Mul.f kj21 a0 t359).bind fun bt373 => ((num_Mul.f kj21 t359 a0).bind fun bt375 => (if t369 = t371 then (if (t370 == t372) = true then (if bt373.1 = bt375.1 then (if (bt373.2 == bt375.2) = true then ((pannierlaw01_wakes.f kj21).bind fun t377 => (some t377)) else (none)) else (none)) else (none)) else (none)))) = some r := H
                  have A29 := Aside0.mk A290
                  clear A290
                  replace H := Option.bind_eq_some_iff.mp H
                  obtain ⟨⟨t373, t374⟩, A300, H⟩ := H
                  replace H : ((num_Mul.f kj21 t359 a0).bind fun bt375 => (if t369 = t371 then (if (t370 == t372) = true then (if t373 = bt375.1 then (if (t374 == bt375.2) = true then ((pannierlaw01_wakes.f kj21).bind fun t377 => (some t377)) else (none)) else (none)) else (none)) else (none))) = some r := H
                  have A30 := Aside0.mk A300
                  clear A300
                  replace H := Option.bind_eq_some_iff.mp H
                  obtain ⟨⟨t375, t376⟩, A310, H⟩ := H
                  replace H : (if t369 = t371 then (if (t370 == t372) = true then (if t373 = t375 then (if (t374 == t376) = true then ((pannierlaw01_wakes.f kj21).bind fun t377 => (some t377)) else (none)) else (none)) else (none)) else (none)) = some r := H
                  have A31 := Aside0.mk A310
                  clear A310
                  by_cases c32 : t369 = t371
                  · rw [if_pos c32] at H
                    have c32b0 : (t369 == t371) = true := beq_iff_eq.mpr c32
                    have c32b1 : (t369 != t371) = false := bne_eq_false_iff_eq.mpr c32
                    clear c32
                    by_cases c33 : (t370 == t372) = true
                    · rw [if_pos c33] at H
                      have c33b0 : (t370 == t372) = true := c33
                      (try (have c33b1 : decide (t370 = t372) = true := by simpa using c33))
                      (try (have c33b2 : (t370 == t372) = true := by simpa using c33))
                      clear c33
                      by_cases c34 : t373 = t375
                      · rw [if_pos c34] at H
                        have c34b0 : (t373 == t375) = true := beq_iff_eq.mpr c34
                        have c34b1 : (t373 != t375) = false := bne_eq_false_iff_eq.mpr c34
                        clear c34
                        by_cases c35 : (t374 == t376) = true
                        · rw [if_pos c35] at H
                          have c35b0 : (t374 == t376) = true := c35
                          (try (have c35b1 : decide (t374 = t376) = true := by simpa using c35))
                          (try (have c35b2 : (t374 == t376) = true := by simpa using c35))
                          clear c35
                          replace H := Option.bind_eq_some_iff.mp H
                          obtain ⟨t377, A360, H⟩ := H
                          replace H : (some t377) = some r := H
                          have A36 := Aside0.mk A360
                          clear A360
                          obtain rfl := Option.some.inj H
                          go_wp2_with (first | ((with_reducible refine gate_callee (f := 48) rfl ?_); refine goesL_ (some 101) rfl rfl Tryd.func48 (by kernel_rfl) rfl #[.int .i64 a0, .int .i64 t359] rfl (by (try simp only [List.map_toArray, List.map_cons, List.map_nil]); first | done | rfl | (simp only [List.length_drop, List.length_take]; rfl)) ?_; (with_reducible refine (num_Add.calls a0 t359 t369 t370 _ A28.out).mono ?_); rintro e w' ⟨rfl, ⟨nd, rfl⟩⟩; refine ⟨_, rfl, ?_⟩) | ((with_reducible refine gate_callee (f := 48) rfl ?_); refine goesL_ (some 107) rfl rfl Tryd.func48 (by kernel_rfl) rfl #[.int .i64 t359, .int .i64 a0] rfl (by (try simp only [List.map_toArray, List.map_cons, List.map_nil]); first | done | rfl | (simp only [List.length_drop, List.length_take]; rfl)) ?_; (with_reducible refine (num_Add.calls t359 a0 t371 t372 _ A29.out).mono ?_); rintro e w' ⟨rfl, ⟨nd, rfl⟩⟩; refine ⟨_, rfl, ?_⟩) | ((with_reducible refine gate_callee (f := 47) rfl ?_); refine goesL_ (some 113) rfl rfl Tryd.func47 (by kernel_rfl) rfl #[.int .i64 a0, .int .i64 t359] rfl (by (try simp only [List.map_toArray, List.map_cons, List.map_nil]); first | done | rfl | (simp only [List.length_drop, List.length_take]; rfl)) ?_; (with_reducible refine (num_Mul.calls kj21 a0 t359 t373 t374 _ A30.out).mono ?_); rintro e w' ⟨rfl, ⟨nd, rfl⟩⟩; refine ⟨_, rfl, ?_⟩) | ((with_reducible refine gate_callee (f := 47) rfl ?_); refine goesL_ (some 119) rfl rfl Tryd.func47 (by kernel_rfl) rfl #[.int .i64 t359, .int .i64 a0] rfl (by (try simp only [List.map_toArray, List.map_cons, List.map_nil]); first | done | rfl | (simp only [List.length_drop, List.length_take]; rfl)) ?_; (with_reducible refine (num_Mul.calls kj21 t359 a0 t375 t376 _ A31.out).mono ?_); rintro e w' ⟨rfl, ⟨nd, rfl⟩⟩; refine ⟨_, rfl, ?_⟩) | (go_at_call 34; (with_reducible refine (pannierlaw01_wakes.calls kj21  t377 _ ?side1 A36.out).mono ?_); (case side1 => exact gl_2_2 (by repeat (first | (with_reducible first | exact HB.out | apply below_alloc | apply pw_below_drewN | apply below_drew1) | exact HB.out)) hG); rintro e w37 ⟨rfl, hb⟩; have n0_ := Aside0.mk (below_step (by repeat (first | (with_reducible first | exact HB.out | apply below_alloc | apply pw_below_drewN | apply below_drew1) | exact HB.out)) hb); clear HB; have HB := n0_; clear n0_; (try clear hb); (try clear hb2); (try clear hk); (try clear hi)))
                          go_ret
                          exact ⟨by first | rfl | (simp [errW_none, errW_some] <;> rfl) | (simp [*, errW_none, errW_some] <;> rfl), by repeat (first | (with_reducible first | exact HB.out | apply below_alloc | apply pw_below_drewN | apply below_drew1) | exact HB.out)⟩
                        · rw [if_neg c35] at H
                          exact absurd H (by simp)
                      · rw [if_neg c34] at H
                        exact absurd H (by simp)
                    · rw [if_neg c33] at H
                      exact absurd H (by simp)
                  · rw [if_neg c32] at H
                    exact absurd H (by simp)

end Go.Proofs.YtohfidjbnmlfeaaDoor.P

/- The laws of whole numbers, as plain facts. -/
namespace Go.Proofs.YtohfidjbnmlfeaaDoor.P
open Go.RowKit Go.Proofs.YtohfidjbnmlfeaaDoorW.PrintWords Go.Proofs.YtohfidjbnmlfeaaDoorW.PrintLast Go.Proofs.YtohfidjbnmlfeaaDoorW.PrintMore
open M (fit I64 u64w)
set_option linter.unusedVariables false
set_option linter.unusedSimpArgs false

theorem wakes01 (k : Nat) (hk : 100 ≤ k) : pannierlaw01_wakes.f k = some true :=
  at_rounds pannierlaw01_wakes.mono hk (by decide +kernel)
theorem i64_of {n : Int} (h : (Lit.int .i64 n).wf = true) : I64 n := M.i64wf h

theorem NumAdds_pure (a b : Int) (ha : (Lit.int .i64 a).wf = true) (hb : (Lit.int .i64 b).wf = true) : ∃ k, pannierlaw01_NumAdds.f k a b = some true := by
  have ha := i64_of ha
  have hb := i64_of hb
  refine ⟨101, ?_⟩
  unfold pannierlaw01_NumAdds.f
  rw [add_eq a b ha hb, Option.bind_some, sub_eq a b ha hb, Option.bind_some, mul_eq _ a b ha hb, Option.bind_some, radd_eq _ a b ha hb, Option.bind_some, rsub_eq _ a b ha hb, Option.bind_some, rmul_eq _ (by omega) a b ha hb, Option.bind_some]
  rw [if_pos rfl, if_pos (by simp), if_pos rfl, if_pos (by simp), if_pos rfl, if_pos (by simp), wakes01 _ (by omega), Option.bind_some]
theorem NumDivides_pure (a b : Int) (ha : (Lit.int .i64 a).wf = true) (hb : (Lit.int .i64 b).wf = true) : ∃ k, pannierlaw01_NumDivides.f k a b = some true := by
  have ha := i64_of ha
  have hb := i64_of hb
  refine ⟨b.natAbs + 1000, ?_⟩
  unfold pannierlaw01_NumDivides.f
  rw [div_eq a b ha, Option.bind_some, mod_eq a b ha, Option.bind_some, pow_eq _ a b ha hb (by omega), Option.bind_some, gcd_eq _ a b ha hb (by omega), Option.bind_some,
    rdiv_eq _ a b ha hb, Option.bind_some, rmod_eq _ a b ha hb, Option.bind_some, rpow_eq _ a b ha hb (by omega), Option.bind_some, rgcd_eq _ a b ha hb (by omega), Option.bind_some]
  rw [if_pos rfl, if_pos (by simp), if_pos rfl, if_pos (by simp), if_pos rfl, if_pos (by simp), if_pos rfl, if_pos (by simp), wakes01 _ (by omega), Option.bind_some]
theorem NumTexts_pure (a : Int) (s : ByteArray) (ha : (Lit.int .i64 a).wf = true) (hs : s.size ≤ 140737488351232) : ∃ k, pannierlaw01_NumTexts.f k a s = some true := by
  have ha := i64_of ha
  refine ⟨3000, ?_⟩
  unfold pannierlaw01_NumTexts.f
  by_cases h : (s.size : Int) > 2000
  · rw [if_pos h, wakes01 _ (by omega), Option.bind_some]
  · have hd : (bs (M.itoaF a)).size ≤ 281474976710656 := by rw [bs_size]; have := itoa_short a; omega
    have hb : (bs (M.itoaF a)).data.toList = M.itoaF a := rfl
    have h1 : num_Parse.f s = some (M.numParse s.data.toList) := by unfold num_Parse.f; rw [if_pos (by omega)]
    have h2 : num_Parse.f (bs (M.itoaF a)) = some (a, true) := by unfold num_Parse.f; rw [if_pos hd, hb, M.numParse_itoa a ha.1 ha.2]
    rw [if_neg h, h1, Option.bind_some, rparse_eq _ s (by omega) (by omega), Option.bind_some, dec_one a ha, Option.bind_some, h2, Option.bind_some, Option.bind_some, rdec_eq _ (by omega) a ha, Option.bind_some]
    rw [if_pos rfl, if_pos rfl, if_pos (by simp), if_pos rfl, if_pos rfl, wakes01 _ (by omega), Option.bind_some]
theorem NumGcd_pure (a b c : Int) (ha : (Lit.int .i32 a).wf = true) (hb : (Lit.int .i32 b).wf = true) (hc : (Lit.int .u8 c).wf = true) : ∃ k, pannierlaw01_NumGcd.f k a b c = some true := by
  have ha : -2147483648 ≤ a ∧ a ≤ 2147483647 := by simp [Lit.wf, IntKind.min, IntKind.max, IntKind.signed, IntKind.bits] at ha; omega
  have hb : -2147483648 ≤ b ∧ b ≤ 2147483647 := by simp [Lit.wf, IntKind.min, IntKind.max, IntKind.signed, IntKind.bits] at hb; omega
  have hc : 0 ≤ c ∧ c ≤ 255 := by simp [Lit.wf, IntKind.min, IntKind.max, IntKind.signed, IntKind.bits] at hc; omega
  have ia : I64 a := by unfold I64; omega
  have ib : I64 b := by unfold I64; omega
  have wa : wrap64 a = a := M.wrap64_id ia
  have wb : wrap64 b = b := M.wrap64_id ib
  have wc : wrap64 (wrap64 c + 1) = c + 1 := by rw [M.wrap64_id (n := c) (by unfold I64; omega), M.wrap64_id (by unfold I64; omega)]
  have hg : gcdS a b = (((Nat.gcd a.natAbs b.natAbs : Nat) : Int), true) := by
    unfold gcdS
    have : Nat.gcd a.natAbs b.natAbs ≤ a.natAbs + b.natAbs := by
      rcases Nat.eq_zero_or_pos a.natAbs with h | h
      · rw [h, Nat.gcd_zero_left]; omega
      · have := Nat.gcd_le_left b.natAbs h; omega
    exact M.fit_in (by omega)
  have hg2 : gcdS b a = (((Nat.gcd a.natAbs b.natAbs : Nat) : Int), true) := by
    rw [← hg]; unfold gcdS; rw [Nat.gcd_comm]
  have hda : (Nat.gcd a.natAbs b.natAbs : Int) ∣ a := Int.ofNat_dvd_left.mpr (Nat.gcd_dvd_left _ _)
  have hdb : (Nat.gcd a.natAbs b.natAbs : Int) ∣ b := Int.ofNat_dvd_left.mpr (Nat.gcd_dvd_right _ _)
  refine ⟨a.natAbs + b.natAbs + 1000, ?_⟩
  unfold pannierlaw01_NumGcd.f
  rw [wa, wb, gcd_eq _ a b ia ib (by omega), Option.bind_some, gcd_eq _ b a ib ia (by omega), Option.bind_some, hg, hg2, if_pos rfl, if_pos rfl, if_pos rfl]
  simp only [pannierlaw01_NumGcd.j0]
  rw [if_neg (by simp)]
  by_cases h0 : ((Nat.gcd a.natAbs b.natAbs : Nat) : Int) = 0
  · have h1 : Nat.gcd a.natAbs b.natAbs = 0 := by omega
    rw [Nat.gcd_eq_zero_iff] at h1
    rw [if_pos h0, if_pos (by omega), if_pos (by omega), wakes01 _ (by omega), Option.bind_some]
  · rw [if_neg h0, wa, wb, wc, if_pos (Int.tmod_eq_zero_of_dvd hda), if_pos (Int.tmod_eq_zero_of_dvd hdb), if_neg (by omega), wakes01 _ (by omega), Option.bind_some]
    by_cases h1 : a.tmod (c + 1) = 0
    · rw [if_pos h1]
      by_cases h2 : b.tmod (c + 1) = 0
      · rw [if_pos h2, if_pos]
        apply Int.tmod_eq_zero_of_dvd
        have e1 := Int.dvd_of_tmod_eq_zero h1
        have e2 := Int.dvd_of_tmod_eq_zero h2
        obtain ⟨m, hm⟩ : ∃ m : Nat, c + 1 = m := ⟨(c + 1).toNat, by omega⟩
        rw [hm] at e1 e2 ⊢
        exact Int.natCast_dvd_natCast.mpr (Nat.dvd_gcd (Int.ofNat_dvd_left.mp e1) (Int.ofNat_dvd_left.mp e2))
      · rw [if_neg h2]
    · rw [if_neg h1]
theorem NumBack_pure (a b : Int) (ha : (Lit.int .i64 a).wf = true) (hb : (Lit.int .i64 b).wf = true) : ∃ k, pannierlaw01_NumBack.f k a b = some true := by
  have ha := i64_of ha
  have hb := i64_of hb
  have main : pannierlaw01_NumBack.j0 200 a b = some true := by
    simp only [pannierlaw01_NumBack.j0]
    rw [div_eq a b ha, Option.bind_some, mod_eq a b ha, Option.bind_some]
    unfold divS modS
    by_cases h0 : b = 0
    · rw [if_pos h0, if_pos h0, if_neg (by simp), if_neg (by simp), if_pos h0, wakes01 _ (by omega), Option.bind_some]
    · rw [if_neg h0, if_neg h0]
      by_cases h1 : a = -9223372036854775808 ∧ b = -1
      · obtain ⟨rfl, rfl⟩ := h1
        rw [show fit (Int.tdiv (-9223372036854775808) (-1)) = (0, false) by decide]
        simp [wakes01]
      · have hq := tdiv_in a b ha h0 h1
        have he := Int.mul_tdiv_add_tmod a b
        rw [M.fit_in hq, if_pos rfl, if_neg (by simp), if_pos rfl]
        have hsz := M.mul_sizes (a.tdiv b) b
        have hqs := tdiv_sizes a b
        have hms := tmod_sizes a b
        have hm : I64 (a.tdiv b * b) := by
          rw [Int.mul_comm] at he
          have h2 : (a.tmod b).natAbs ≤ a.natAbs := by rw [hms]; have := Nat.mod_le a.natAbs b.natAbs; split <;> omega
          unfold I64 at ha ⊢
          generalize a.tdiv b * b = z at *
          generalize a.tmod b = y at *
          have hy : (a < 0 → y ≤ 0) ∧ (¬ a < 0 → 0 ≤ y) := by rw [hms]; constructor <;> intro h <;> simp only [h, if_true, if_false] <;> omega
          by_cases h3 : a < 0
          · have := hy.1 h3; omega
          · have := hy.2 h3; omega
        have hs : a.tdiv b * b + a.tmod b = a := by rw [Int.mul_comm]; exact he
        have hr : I64 (a.tmod b) := by
          have h2 : (a.tmod b).natAbs ≤ a.natAbs := by rw [hms]; have := Nat.mod_le a.natAbs b.natAbs; split <;> omega
          have hy : (a < 0 → a.tmod b ≤ 0) ∧ (¬ a < 0 → 0 ≤ a.tmod b) := by rw [hms]; constructor <;> intro h <;> simp only [h, if_true, if_false] <;> omega
          unfold I64 at ha ⊢
          by_cases h3 : a < 0
          · have := hy.1 h3; omega
          · have := hy.2 h3; omega
        rw [mul_eq _ _ _ hq hb, Option.bind_some, M.fit_in hm, add_eq _ _ hm hr, Option.bind_some, hs, M.fit_in ha, if_pos rfl, if_pos rfl, if_pos rfl, wakes01 _ (by omega)]
        by_cases h4 : a.tmod b = 0
        · simp [h4]
        · rw [if_neg h4, if_pos]
          · rfl
          · rw [hms] at h4 ⊢
            by_cases h3 : a < 0
            · simp only [h3, if_true] at h4 ⊢; simp; omega
            · simp only [h3, if_false] at h4 ⊢; simp; omega
  refine ⟨200, ?_⟩
  unfold pannierlaw01_NumBack.f
  rw [add_eq a b ha hb, Option.bind_some]
  by_cases h : I64 (a + b)
  · rw [M.fit_in h, if_pos rfl, sub_eq _ _ h hb, Option.bind_some, show a + b - b = a by omega, M.fit_in ha, if_pos rfl, if_pos rfl, main]
  · rw [M.fit_out h, if_neg (by simp), main]
end Go.Proofs.YtohfidjbnmlfeaaDoor.P

/- The law of powers, as a plain fact. -/
namespace Go.Proofs.YtohfidjbnmlfeaaDoor.P
open Go.RowKit Go.Proofs.YtohfidjbnmlfeaaDoorW.PrintWords Go.Proofs.YtohfidjbnmlfeaaDoorW.PrintLast Go.Proofs.YtohfidjbnmlfeaaDoorW.PrintMore
open M (fit I64 u64w)
set_option linter.unusedVariables false
set_option linter.unusedSimpArgs false

theorem zero_in : I64 0 := by decide
theorem wrap_nat (n : Nat) (h : n < 1000) : wrap64 (n : Int) = n := M.wrap64_id (by unfold I64; omega)
theorem wrap_add (n m : Nat) (h : n < 500) (h2 : m < 500) : wrap64 ((n : Int) + m) = ((n + m : Nat) : Int) := by rw [M.wrap64_id (by unfold I64; omega)]; omega
theorem pw_at (a : Int) (ha : I64 a) (j k : Nat) (hj : j < 100) (hk : 200 ≤ k) : num_Pow.f k a (j : Int) = some (fit (a ^ j)) := by
  rw [pow_eq k a j ha (by unfold I64; omega) (by omega)]
  unfold powS
  rw [if_neg (by omega), Int.toNat_natCast]
theorem last_at (a : Int) (ha : I64 a) (x : Int) (k : Nat) (hx : I64 x) (hk : 150 ≤ k) : pannierlaw01_NumPowers.j4 k a x = some true := by
  obtain ⟨k, rfl⟩ : ∃ m, k = m + 2 := ⟨k - 2, by omega⟩
  simp only [pannierlaw01_NumPowers.j4]
  rw [add_eq a x ha hx, Option.bind_some, add_eq x a hx ha, Option.bind_some, mul_eq _ a x ha hx, Option.bind_some, mul_eq _ x a hx ha, Option.bind_some, Int.add_comm x a, Int.mul_comm x a]
  rw [if_pos rfl, if_pos (by simp), if_pos rfl, if_pos (by simp), wakes01 _ (by omega), Option.bind_some]
theorem near_left (a : Int) (n m : Nat) (h : I64 (a ^ (n + m))) : I64 (a ^ n) := by
  by_cases hh : I64 (a ^ n)
  · exact hh
  · exact absurd h (pow_far a n (n + m) hh (Nat.le_add_right n m))
theorem near_right (a : Int) (n m : Nat) (h : I64 (a ^ (n + m))) : I64 (a ^ m) := by
  by_cases hh : I64 (a ^ m)
  · exact hh
  · exact absurd h (pow_far a m (n + m) hh (Nat.le_add_left m n))
/-- What is known of three numbers, one of which is the product of the other two. -/
structure Prods (x y z : Int × Bool) : Prop where
  x1 : I64 x.1
  y1 : I64 y.1
  x0 : x.2 = false → x.1 = 0
  both : x.2 = true → y.2 = true → ∀ k, num_Mul.f (k + 1) x.1 y.1 = some z
theorem fit_in64 (n : Int) : I64 (fit n).1 := by
  by_cases h : I64 n
  · rw [M.fit_in h]; exact h
  · rw [M.fit_out h]; exact zero_in
theorem fit_yes {n : Int} (h : (fit n).2 = true) : I64 n ∧ (fit n).1 = n := by
  by_cases hh : I64 n
  · exact ⟨hh, by rw [M.fit_in hh]⟩
  · rw [M.fit_out hh] at h; cases h
theorem prods (a : Int) (n m : Nat) : Prods (fit (a ^ n)) (fit (a ^ m)) (fit (a ^ (n + m))) where
  x1 := fit_in64 _
  y1 := fit_in64 _
  x0 := by
    intro h
    by_cases hh : I64 (a ^ n)
    · rw [M.fit_in hh] at h; cases h
    · rw [M.fit_out hh]
  both := by
    intro h1 h2 k
    obtain ⟨i1, e1⟩ := fit_yes h1
    obtain ⟨i2, e2⟩ := fit_yes h2
    rw [e1, e2, mul_eq _ _ _ i1 i2, ← Int.pow_add]
theorem j3_at (a : Int) (ha : I64 a) (x y z : Int × Bool) (P : Prods x y z) (k : Nat) (hk : 160 ≤ k) (b : Bool) (hb : b = (x.2 && y.2)) : pannierlaw01_NumPowers.j3 k a x.1 y.1 z.1 z.2 b = some true := by
  obtain ⟨k, rfl⟩ : ∃ m, k = m + 2 := ⟨k - 2, by omega⟩
  have hl := last_at a ha x.1 (k + 1) P.x1 (by omega)
  simp only [pannierlaw01_NumPowers.j3]
  cases hb1 : x.2 <;> cases hb2 : y.2 <;> rw [hb1, hb2] at hb <;> subst hb
  · rw [if_neg (by simp)]; exact hl
  · rw [if_neg (by simp)]; exact hl
  · rw [if_neg (by simp)]; exact hl
  · rw [if_pos (by rfl), P.both hb1 hb2, Option.bind_some, if_neg (by simp)]
    split
    · rw [if_pos rfl]; exact hl
    · exact hl
theorem j2_at (a : Int) (ha : I64 a) (x y z : Int × Bool) (P : Prods x y z) (k : Nat) (hk : 161 ≤ k) : pannierlaw01_NumPowers.j2 k a x.1 x.2 y.1 y.2 z.1 z.2 = some true := by
  obtain ⟨k, rfl⟩ : ∃ m, k = m + 1 := ⟨k - 1, by omega⟩
  simp only [pannierlaw01_NumPowers.j2]
  cases hb : x.2
  · rw [if_neg (by simp)]; exact j3_at a ha x y z P k (by omega) false (by rw [hb]; rfl)
  · rw [if_pos rfl]; exact j3_at a ha x y z P k (by omega) y.2 (by rw [hb]; rfl)
theorem NumPowers_pure (a b c : Int) (ha : (Lit.int .i64 a).wf = true) (hb : (Lit.int .u8 b).wf = true) (hc : (Lit.int .u8 c).wf = true) : ∃ k, pannierlaw01_NumPowers.f k a b c = some true := by
  have ha := i64_of ha
  have hb : 0 ≤ b ∧ b ≤ 255 := by simp [Lit.wf, IntKind.min, IntKind.max, IntKind.signed, IntKind.bits] at hb; omega
  have hc : 0 ≤ c ∧ c ≤ 255 := by simp [Lit.wf, IntKind.min, IntKind.max, IntKind.signed, IntKind.bits] at hc; omega
  obtain ⟨n, hn⟩ : ∃ n : Nat, Int.tmod b 40 = n := ⟨(b % 40).toNat, by rw [Int.tmod_eq_emod_of_nonneg (by omega)]; omega⟩
  obtain ⟨m, hm⟩ : ∃ m : Nat, Int.tmod c 40 = m := ⟨(c % 40).toNat, by rw [Int.tmod_eq_emod_of_nonneg (by omega)]; omega⟩
  have hn40 : n < 40 := by rw [Int.tmod_eq_emod_of_nonneg (by omega)] at hn; omega
  have hm40 : m < 40 := by rw [Int.tmod_eq_emod_of_nonneg (by omega)] at hm; omega
  have wn := wrap_nat n (by omega)
  have wm := wrap_nat m (by omega)
  have wnm := wrap_add n m (by omega) (by omega)
  have pn := pw_at a ha n 400 (by omega) (by omega)
  have pm := pw_at a ha m 400 (by omega) (by omega)
  have pnm := pw_at a ha (n + m) 400 (by omega) (by omega)
  have P := prods a n m
  have hz : (fit (a ^ (n + m))).2 = true → (fit (a ^ n)).2 = true ∧ (fit (a ^ m)).2 = true := by
    intro h
    have h3 := (fit_yes h).1
    rw [M.fit_in (near_left a n m h3), M.fit_in (near_right a n m h3)]
    exact ⟨rfl, rfl⟩
  generalize fit (a ^ n) = x at *
  generalize fit (a ^ m) = y at *
  generalize fit (a ^ (n + m)) = z at *
  refine ⟨400, ?_⟩
  unfold pannierlaw01_NumPowers.f
  rw [hn, hm, wn, wm, wnm, pn, pm, pnm]
  simp only [Option.bind_some]
  have J2 := j2_at a ha x y z P
  cases hb3 : z.2
  · rw [if_neg (by simp)]
    simp only [pannierlaw01_NumPowers.j0]
    rw [if_neg (by simp), ← hb3]
    exact J2 399 (by omega)
  · rw [if_pos rfl]
    obtain ⟨h1, h2⟩ := hz hb3
    simp only [pannierlaw01_NumPowers.j0]
    by_cases h4 : a = 0
    · rw [if_neg (by simp [h4])]
      have := J2 399 (by omega)
      rw [hb3] at this
      exact this
    · rw [if_pos (by simpa using h4), h1, if_pos rfl]
      simp only [pannierlaw01_NumPowers.j1]
      rw [h2, if_neg (by simp), P.both h1 h2, Option.bind_some, if_pos hb3, if_pos rfl]
      have := J2 398 (by omega)
      rw [h1, h2, hb3] at this
      exact this
end Go.Proofs.YtohfidjbnmlfeaaDoor.P
