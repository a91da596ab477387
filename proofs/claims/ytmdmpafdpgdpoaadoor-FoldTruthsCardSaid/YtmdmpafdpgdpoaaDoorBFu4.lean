/- Contracts of the functions that the law reaches, each with the plain function that it comes to, and plain facts about these. -/
import Derived.Test.YtmdmpafdpgdpoaaDoorBFu1
import Derived.Test.YtmdmpafdpgdpoaaDoorBFu2
import Derived.Test.YtmdmpafdpgdpoaaDoorBFu3
namespace Go.Proofs.YtmdmpafdpgdpoaaDoor.P
open Go.RowKit Go.Proofs.YtmdmpafdpgdpoaaDoorW.PrintWords Go.Proofs.YtmdmpafdpgdpoaaDoorW.PrintLast Go.Proofs.YtmdmpafdpgdpoaaDoorW.PrintMore
attribute [local go_sem] max2_int min2_int max_two min_two max_three min_three max_four min_four   -- for this text's walks alone
set_option linter.unusedVariables false
set_option linter.unusedSimpArgs false
mutual
def pannierlaw10_FoldTruths.j0 : Nat → List Bool → List ByteArray → Bool → Option (Bool)
  | 0, _, _, _ => none
  | k + 1, x0, x1, x35 => if x35 = true then ((pannierlaw10_wakes.f).bind fun t277 => (some t277)) else (pannierlaw10_FoldTruths.l0 k x0 x1 ([] : List (S23)) ([] : List (S23)) true false 0)
def pannierlaw10_FoldTruths.l0 : Nat → List Bool → List ByteArray → List (S23) → List (S23) → Bool → Bool → Int → Option (Bool)
  | 0, _, _, _, _, _, _, _ => none
  | k + 1, x0, x1, x5, x6, x8, x9, x10 => if x10 < (x0.length : Int) then (if 0 ≤ x10 then (if rdOf false x0 x10 = true then ((some (([(⟨1, 1, (⟨#[]⟩ : ByteArray)⟩ : S23)] : List (S23)) : List (S23))).bind fun y281 => (if x5.length + y281.length < 4398046511104 then ((some (x5 ++ y281 : List (S23))).bind fun y284 => ((some (([(⟨1, 0, (⟨#[]⟩ : ByteArray)⟩ : S23)] : List (S23)) : List (S23))).bind fun y287 => (if x6.length + y287.length < 4398046511104 then ((some (x6 ++ y287 : List (S23))).bind fun y290 => (if x8 = true then (if x9 = true then (pannierlaw10_FoldTruths.l0 k x0 x1 y284 y290 (rdOf false x0 x10) true (wrap64 (x10 + 1))) else (pannierlaw10_FoldTruths.l0 k x0 x1 y284 y290 (rdOf false x0 x10) (rdOf false x0 x10) (wrap64 (x10 + 1)))) else (if x9 = true then (pannierlaw10_FoldTruths.l0 k x0 x1 y284 y290 false true (wrap64 (x10 + 1))) else (pannierlaw10_FoldTruths.l0 k x0 x1 y284 y290 false (rdOf false x0 x10) (wrap64 (x10 + 1)))))) else (none)))) else (none))) else ((some (([(⟨1, 0, (⟨#[]⟩ : ByteArray)⟩ : S23)] : List (S23)) : List (S23))).bind fun y296 => (if x5.length + y296.length < 4398046511104 then ((some (x5 ++ y296 : List (S23))).bind fun y299 => ((some (([(⟨1, 1, (⟨#[]⟩ : ByteArray)⟩ : S23)] : List (S23)) : List (S23))).bind fun y302 => (if x6.length + y302.length < 4398046511104 then ((some (x6 ++ y302 : List (S23))).bind fun y305 => (if x8 = true then (if x9 = true then (pannierlaw10_FoldTruths.l0 k x0 x1 y299 y305 (rdOf false x0 x10) true (wrap64 (x10 + 1))) else (pannierlaw10_FoldTruths.l0 k x0 x1 y299 y305 (rdOf false x0 x10) (rdOf false x0 x10) (wrap64 (x10 + 1)))) else (if x9 = true then (pannierlaw10_FoldTruths.l0 k x0 x1 y299 y305 false true (wrap64 (x10 + 1))) else (pannierlaw10_FoldTruths.l0 k x0 x1 y299 y305 false (rdOf false x0 x10) (wrap64 (x10 + 1)))))) else (none)))) else (none)))) else (none)) else (pannierlaw10_FoldTruths.l1 k x1 x5 x6 ([] : List (S23)) x8 x9 (⟨#[]⟩ : ByteArray) 0)
def pannierlaw10_FoldTruths.l1 : Nat → List ByteArray → List (S23) → List (S23) → List (S23) → Bool → Bool → ByteArray → Int → Option (Bool)
  | 0, _, _, _, _, _, _, _, _ => none
  | k + 1, x1, x5, x6, x7, x8, x9, x13, x14 => if x14 < (x1.length : Int) then (if 0 ≤ x14 then (if ((rdOf ByteArray.empty x1 x14).size : Int) > 200 then ((pannierlaw10_wakes.f).bind fun t312 => (some t312)) else (if (wrap64 ((x13.size : Int) + ((rdOf ByteArray.empty x1 x14).size : Int))) > 200 then ((pannierlaw10_wakes.f).bind fun t314 => (some t314)) else (if x13.size + (rdOf ByteArray.empty x1 x14).size ≤ 9223372036854775807 then ((some (([(⟨3, 0, rdOf ByteArray.empty x1 x14⟩ : S23)] : List (S23)) : List (S23))).bind fun y317 => (if x7.length + y317.length < 4398046511104 then (pannierlaw10_FoldTruths.l1 k x1 x5 x6 (x7 ++ y317) x8 x9 (x13 ++ (rdOf ByteArray.empty x1 x14)) (wrap64 (x14 + 1))) else (none))) else (none)))) else (none)) else ((fold_Of.f (⟨#[65, 78, 68]⟩ : ByteArray) x5).bind fun bt323 => ((fold_Of.f (⟨#[79, 82]⟩ : ByteArray) x5).bind fun bt328 => ((fold_Of.f (⟨#[65, 78, 68]⟩ : ByteArray) x6).bind fun bt333 => ((fold_Of.f (⟨#[74, 79, 73, 78]⟩ : ByteArray) x7).bind fun bt338 => (if ((bt323.2.1 == 1) == x8) = true then (if ((bt328.2.1 == 1) == x9) = true then (if ((bt333.2.1 == 1) == (!x9)) = true then (if bt323.1 = 1 then (if bt338.2.2.2 = true then (if bt338.1 = 3 then (if bt338.2.2.1.toList = x13.toList then ((pannierlaw10_wakes.f).bind fun t343 => (some t343)) else (none)) else (none)) else (none)) else (none)) else (none)) else (none)) else (none))))))
end
def pannierlaw10_FoldTruths.f (k : Nat) (l0 : List Bool) (l1 : List ByteArray) : Option (Bool) := if (l0.length : Int) > 100 then (pannierlaw10_FoldTruths.j0 k l0 l1 true) else (if (l1.length : Int) > 100 then (pannierlaw10_FoldTruths.j0 k l0 l1 true) else (pannierlaw10_FoldTruths.j0 k l0 l1 ((l0.length : Int) == 0)))
def pannierlaw10_FoldTruths.T11 : Bool × List (List Nat × List Nat) := (true, [([], []), ([], []), ([1], [1]), ([0, 2], [0, 2]), ([], []), ([], []), ([5], [5]), ([4, 6, 3], [4, 6]), ([3, 7, 0, 1, 2, 3], [0, 3]), ([7, 8, 0, 1, 2, 3, 4, 5, 6, 7, 8], [4, 7])])
def pannierlaw10_FoldTruths.B11 : List Nat := [0, 0, 2, 7, 0, 0, 32, 127, 255, 511]
theorem pannierlaw10_FoldTruths.tab11 : rtab .any (opsOf Tryd.f6 11) = pannierlaw10_FoldTruths.T11 := by kernel_rfl
theorem pannierlaw10_FoldTruths.bits11 : waitsOk pannierlaw10_FoldTruths.T11.2 pannierlaw10_FoldTruths.B11 = true := by kernel_rfl
def pannierlaw10_FoldTruths.T12 : Bool × List (List Nat × List Nat) := (true, [([], []), ([0], [0]), ([1], [1]), ([1], [1]), ([2, 3, 1], [1, 2, 3]), ([4, 1], [1, 4]), ([1, 5], [1, 5]), ([], []), ([7, 1], [7]), ([8], [8]), ([8], [8]), ([9, 10, 8], [8, 9, 10]), ([11, 8], [8, 11]), ([8, 12], [8, 12]), ([6, 8, 0, 1, 2, 3, 4, 5, 6], [0, 6]), ([13, 14, 0, 1, 2, 3, 4, 5, 6, 7, 8, 9, 10, 11, 12, 13, 14], [7, 13])])
def pannierlaw10_FoldTruths.B12 : List Nat := [0, 1, 3, 3, 15, 31, 63, 0, 131, 387, 387, 1923, 3971, 8067, 511, 32767]
theorem pannierlaw10_FoldTruths.tab12 : rtab .any (opsOf Tryd.f6 12) = pannierlaw10_FoldTruths.T12 := by kernel_rfl
theorem pannierlaw10_FoldTruths.bits12 : waitsOk pannierlaw10_FoldTruths.T12.2 pannierlaw10_FoldTruths.B12 = true := by kernel_rfl
set_option maxHeartbeats 8000000 in
set_option maxRecDepth 100000 in
theorem pannierlaw10_FoldTruths.calls (k : Nat) (A0 : Option Addr) (c0 : Nat) (l0 : List Bool) (A1 : Option Addr) (c1 : Nat) (l1 : List ByteArray) (r : Bool) (w : World) (hr0 : Kd.C Kd.bool w A0 l0.length l0) (hc0 : l0.length ≤ c0) (hr1 : Kd.C Kd.string w A1 l1.length l1) (hc1 : l1.length ≤ c1) (hG : G2 w) (h : pannierlaw10_FoldTruths.f k l0 l1 = some r) :
    Calls Tryd.prog 6 #[.slice A0 l0.length c0, .slice A1 l1.length c1] w fun e w' => e = .returned (.bool r) ∧ Below w.heap.size w w' := by
  have hu23 := Tryd.underlying23
  have HR0 := Aside0.mk hr0
  have HC0 := Aside0.mk hc0
  clear hr0 hc0
  have HR1 := Aside0.mk hr1
  have HC1 := Aside0.mk hc1
  clear hr1 hc1
  have HB := Aside0.mk (Below.refl w.heap.size w)
  have H : (if (l0.length : Int) > 100 then (pannierlaw10_FoldTruths.j0 k l0 l1 true) else (if (l1.length : Int) > 100 then (pannierlaw10_FoldTruths.j0 k l0 l1 true) else (pannierlaw10_FoldTruths.j0 k l0 l1 ((l0.length : Int) == 0)))) = some r := h
  clear h
  have HC3 := Aside0.mk H
  clear H
  go_enter Tryd.func6, Tryd.ntmps6
  go_upto_region 1 with (fail)
  go_cut [35] (fun v35 wc => ∃ (kq : Nat) (x35_2 : Bool), v35 = .bool x35_2 ∧ Aside0 (pannierlaw10_FoldTruths.j0 kq l0 l1 x35_2 = some r) ∧ Aside0 (kq ≤ k) ∧ Aside0 (Below w.heap.size w wc))
  case first =>
    have H := HC3.out
    clear HC3
    by_cases c4 : (l0.length : Int) > 100
    · rw [if_pos c4] at H
      have c4b0 : decide (100 < (l0.length : Int)) = true := decide_eq_true c4
      have c4b1 : decide (100 < l0.length) = true := decide_eq_true (by omega)
      clear c4
      (first | rw [c4b0] | (simp only [i64_w, i32_w]; rw [c4b0]) | skip)
      have H' := Aside0.mk H
      clear H
      go_wp2
      go_meet
      case rel => exact ⟨_, (true), (by first | rfl | (simp; done) | (simp [*]; done)), H', ⟨by first | omega | exact Nat.le_refl _⟩, ⟨by repeat first | with_reducible exact HB.out | apply zS | exact HB.out⟩⟩
    · rw [if_neg c4] at H
      have c4b0 : decide (100 < (l0.length : Int)) = false := decide_eq_false c4
      have c4b1 : decide (100 < l0.length) = false := decide_eq_false (by omega)
      clear c4
      (first | rw [c4b0] | (simp only [i64_w, i32_w]; rw [c4b0]) | skip)
      by_cases c5 : (l1.length : Int) > 100
      · rw [if_pos c5] at H
        have c5b0 : decide (100 < (l1.length : Int)) = true := decide_eq_true c5
        have c5b1 : decide (100 < l1.length) = true := decide_eq_true (by omega)
        clear c5
        have H' := Aside0.mk H
        clear H
        go_wp2
        go_meet
        case rel => exact ⟨_, (true), (by first | rfl | (simp; done) | (simp [*]; done)), H', ⟨by first | omega | exact Nat.le_refl _⟩, ⟨by repeat first | with_reducible exact HB.out | apply zS | exact HB.out⟩⟩
      · rw [if_neg c5] at H
        have c5b0 : decide (100 < (l1.length : Int)) = false := decide_eq_false c5
        have c5b1 : decide (100 < l1.length) = false := decide_eq_false (by omega)
        clear c5
        have H' := Aside0.mk H
        clear H
        go_wp2
        go_meet
        case rel => exact ⟨_, (((l0.length : Int) == 0)), (by first | rfl | (simp; done) | (simp [*]; done)), H', ⟨by first | omega | exact Nat.le_refl _⟩, ⟨by repeat first | with_reducible exact HB.out | apply zS | exact HB.out⟩⟩
  case rest =>
    clear HC3
    try clear c1
    try clear p2
    try clear c4
    try clear c4b0
    try clear c4b1
    try clear c5
    try clear c5b0
    try clear c5b1
    obtain ⟨kq, x35_2, rfl, HA, HJ2, HB⟩ := hcut
    cases kq with
    | zero => exact absurd HA.out (by simp [pannierlaw10_FoldTruths.j0])
    | succ kj2 =>
      have H := HA.out
      clear HA
      simp only [pannierlaw10_FoldTruths.j0] at H
      by_cases c6 : x35_2 = true
      · subst c6
        have H1 : ((pannierlaw10_wakes.f).bind fun t277 => (some t277)) = some r := by rw [if_pos rfl] at H; exact H
        clear H
        have H := H1
        clear H1
        replace H := Option.bind_eq_some_iff.mp H
        obtain ⟨t277, A70, H⟩ := H
        replace H : (some t277) = some r := H
        have A7 := Aside0.mk A70
        clear A70
        obtain rfl := Option.some.inj H
        go_wp2_with (first | ((with_reducible refine gate_callee (f := 12) rfl ?_); refine goesL_ (some 36) rfl rfl Tryd.func12 (by kernel_rfl) rfl #[] rfl (by (try simp only [List.map_toArray, List.map_cons, List.map_nil]); first | done | rfl | (simp only [List.length_drop, List.length_take]; rfl)) ?_; (with_reducible refine (pannierlaw10_wakes.calls  t277 _ ?side1 A7.out).mono ?_); (case side1 => exact gl_2_2 (by repeat first | with_reducible exact HB.out | apply zS | exact HB.out) hG); rintro e w8 ⟨rfl, hb⟩; refine ⟨_, rfl, ?_⟩; have n0_ := Aside0.mk (below_step (by repeat first | with_reducible exact HB.out | apply zS | exact HB.out) hb); clear HB; have HB := n0_; clear n0_; (try clear hb); (try clear hb2); (try clear hk); (try clear hi)))
        go_ret
        exact ⟨by first | rfl | (simp [errW_none, errW_some] <;> rfl) | (simp [*, errW_none, errW_some] <;> rfl), by repeat first | with_reducible exact HB.out | apply zS | exact HB.out⟩
      · replace c6 := Bool.eq_false_iff.mpr c6
        subst c6
        have H1 : (pannierlaw10_FoldTruths.l0 kj2 l0 l1 ([] : List (S23)) ([] : List (S23)) true false 0) = some r := by rw [if_neg (show ¬ (false = true) by decide)] at H; exact H
        clear H
        have H := H1
        clear H1
        have H' := Aside0.mk H
        clear H
        go_wp2
        go_loopg [5, 6, 8, 9, 10] kj2 (fun kq v5 v6 v8 v9 v10 w' => ∃ (x5_2 : List (S23)) (x6_2 : List (S23)) (x8_2 : Bool) (x9_2 : Bool) (x10_2 : Int), v8 = .bool x8_2 ∧ v9 = .bool x9_2 ∧ v10 = .int .i64 x10_2 ∧ Aside0 (pannierlaw10_FoldTruths.l0 kq l0 l1 x5_2 x6_2 x8_2 x9_2 x10_2 = some r) ∧ Aside0 (kq ≤ kj2) ∧ Aside0 (Kd.R k23 23 w' w.heap.size (fun k_ => some k_ ≠ (v6 : Value).ownBlock) v5 x5_2) ∧ Aside0 (Kd.R k23 23 w' w.heap.size (fun k_ => some k_ ≠ (v5 : Value).ownBlock) v6 x6_2) ∧ Aside0 (Below w.heap.size w w'))
        case atStart => exact ⟨(([] : List (S23))), (([] : List (S23))), (true), (false), (0), (by first | rfl | (simp; done) | (simp [*]; done)), (by first | rfl | (simp; done) | (simp [*]; done)), (by first | rfl | (simp; done) | (simp [*]; done)), H', ⟨Nat.le_refl _⟩, ⟨by first | exact Kd.R_nil _ _ _ _ _ | exact Kd.N_nil _ _ _ _ _ | exact Kd.V_nil _ _ _ _ _ | exact Kd.Q_nil _ _ _ _ _ | exact Kd.S_nil _ _ _ _ _⟩, ⟨by first | exact Kd.R_nil _ _ _ _ _ | exact Kd.N_nil _ _ _ _ _ | exact Kd.V_nil _ _ _ _ _ | exact Kd.Q_nil _ _ _ _ _ | exact Kd.S_nil _ _ _ _ _⟩, ⟨by repeat first | with_reducible exact HB.out | apply zS | exact HB.out⟩⟩
        case round =>
          clear H'
          try clear c1
          try clear p2
          try clear c4
          try clear c4b0
          try clear c4b1
          try clear c5
          try clear c5b0
          try clear c5b1
          try clear c6
          try clear p2
          obtain ⟨x5_2, x6_2, x8_2, x9_2, x10_2, rfl, rfl, rfl, HA, HK2, HO_5, HO_6, HB⟩ := hrel
          cases gk with
          | zero => exact absurd HA.out (by simp [pannierlaw10_FoldTruths.l0])
          | succ k2 =>
            have H := HA.out
            clear HA
            simp only [pannierlaw10_FoldTruths.l0] at H
            by_cases c9 : x10_2 < (l0.length : Int)
            · rw [if_pos c9] at H
              have c9b0 : decide (x10_2 < (l0.length : Int)) = true := decide_eq_true c9
              clear c9
              by_cases c10 : 0 ≤ x10_2
              · rw [if_pos c10] at H
                have c10b0 : decide (0 ≤ x10_2) = true := decide_eq_true c10
                clear c10
                obtain ⟨bq11, hbq11⟩ : ∃ b_ : Bool, b_ = (rdOf false l0 x10_2) := ⟨_, rfl⟩
                replace H : (if bq11 = true then ((some (([(⟨1, 1, (⟨#[]⟩ : ByteArray)⟩ : S23)] : List (S23)) : List (S23))).bind fun y281 => (if x5_2.length + y281.length < 4398046511104 then ((some (x5_2 ++ y281 : List (S23))).bind fun y284 => ((some (([(⟨1, 0, (⟨#[]⟩ : ByteArray)⟩ : S23)] : List (S23)) : List (S23))).bind fun y287 => (if x6_2.length + y287.length < 4398046511104 then ((some (x6_2 ++ y287 : List (S23))).bind fun y290 => (if x8_2 = true then (if x9_2 = true then (pannierlaw10_FoldTruths.l0 k2 l0 l1 y284 y290 bq11 true (wrap64 (x10_2 + 1))) else (pannierlaw10_FoldTruths.l0 k2 l0 l1 y284 y290 bq11 bq11 (wrap64 (x10_2 + 1)))) else (if x9_2 = true then (pannierlaw10_FoldTruths.l0 k2 l0 l1 y284 y290 false true (wrap64 (x10_2 + 1))) else (pannierlaw10_FoldTruths.l0 k2 l0 l1 y284 y290 false bq11 (wrap64 (x10_2 + 1)))))) else (none)))) else (none))) else ((some (([(⟨1, 0, (⟨#[]⟩ : ByteArray)⟩ : S23)] : List (S23)) : List (S23))).bind fun y296 => (if x5_2.length + y296.length < 4398046511104 then ((some (x5_2 ++ y296 : List (S23))).bind fun y299 => ((some (([(⟨1, 1, (⟨#[]⟩ : ByteArray)⟩ : S23)] : List (S23)) : List (S23))).bind fun y302 => (if x6_2.length + y302.length < 4398046511104 then ((some (x6_2 ++ y302 : List (S23))).bind fun y305 => (if x8_2 = true then (if x9_2 = true then (pannierlaw10_FoldTruths.l0 k2 l0 l1 y299 y305 bq11 true (wrap64 (x10_2 + 1))) else (pannierlaw10_FoldTruths.l0 k2 l0 l1 y299 y305 bq11 bq11 (wrap64 (x10_2 + 1)))) else (if x9_2 = true then (pannierlaw10_FoldTruths.l0 k2 l0 l1 y299 y305 false true (wrap64 (x10_2 + 1))) else (pannierlaw10_FoldTruths.l0 k2 l0 l1 y299 y305 false bq11 (wrap64 (x10_2 + 1)))))) else (none)))) else (none)))) = some r := by rw [← hbq11] at H; exact H
                have Nbq11 := Aside0.mk hbq11
                clear hbq11
                by_cases c12 : bq11 = true
                · subst c12
                  have H1 : ((some (([(⟨1, 1, (⟨#[]⟩ : ByteArray)⟩ : S23)] : List (S23)) : List (S23))).bind fun y281 => (if x5_2.length + y281.length < 4398046511104 then ((some (x5_2 ++ y281 : List (S23))).bind fun y284 => ((some (([(⟨1, 0, (⟨#[]⟩ : ByteArray)⟩ : S23)] : List (S23)) : List (S23))).bind fun y287 => (if x6_2.length + y287.length < 4398046511104 then ((some (x6_2 ++ y287 : List (S23))).bind fun y290 => (if x8_2 = true then (if x9_2 = true then (pannierlaw10_FoldTruths.l0 k2 l0 l1 y284 y290 true true (wrap64 (x10_2 + 1))) else (pannierlaw10_FoldTruths.l0 k2 l0 l1 y284 y290 true true (wrap64 (x10_2 + 1)))) else (if x9_2 = true then (pannierlaw10_FoldTruths.l0 k2 l0 l1 y284 y290 false true (wrap64 (x10_2 + 1))) else (pannierlaw10_FoldTruths.l0 k2 l0 l1 y284 y290 false true (wrap64 (x10_2 + 1)))))) else (none)))) else (none))) = some r := by rw [if_pos rfl] at H; exact H
                  clear H
                  have H := H1
                  clear H1
                  obtain ⟨y281, hy281⟩ : ∃ y_ : List (S23), y_ = (([(⟨1, 1, (⟨#[]⟩ : ByteArray)⟩ : S23)] : List (S23))) := ⟨_, rfl⟩
                  replace H : (if x5_2.length + y281.length < 4398046511104 then ((some (x5_2 ++ y281 : List (S23))).bind fun y284 => ((some (([(⟨1, 0, (⟨#[]⟩ : ByteArray)⟩ : S23)] : List (S23)) : List (S23))).bind fun y287 => (if x6_2.length + y287.length < 4398046511104 then ((some (x6_2 ++ y287 : List (S23))).bind fun y290 => (if x8_2 = true then (if x9_2 = true then (pannierlaw10_FoldTruths.l0 k2 l0 l1 y284 y290 true true (wrap64 (x10_2 + 1))) else (pannierlaw10_FoldTruths.l0 k2 l0 l1 y284 y290 true true (wrap64 (x10_2 + 1)))) else (if x9_2 = true then (pannierlaw10_FoldTruths.l0 k2 l0 l1 y284 y290 false true (wrap64 (x10_2 + 1))) else (pannierlaw10_FoldTruths.l0 k2 l0 l1 y284 y290 false true (wrap64 (x10_2 + 1)))))) else (none)))) else (none)) = some r := by first | (rw [hy281]; with_reducible exact H) | (have H2_ := (Option.bind_some _ _).symm.trans H; rw [hy281]; with_reducible exact H2_) | (have H2_ := (Option.bind_some _ _).symm.trans H; with_reducible exact H2_) | with_reducible exact H | (rw [hy281]; exact H) | exact H
                  have Ny281 := Aside0.mk hy281
                  clear hy281
                  by_cases c13 : x5_2.length + y281.length < 4398046511104
                  · rw [if_pos c13] at H
                    have LMc13 := Aside0.mk c13
                    clear c13
                    obtain ⟨y284, hy284⟩ : ∃ y_ : List (S23), y_ = (x5_2 ++ y281) := ⟨_, rfl⟩
                    replace H : ((some (([(⟨1, 0, (⟨#[]⟩ : ByteArray)⟩ : S23)] : List (S23)) : List (S23))).bind fun y287 => (if x6_2.length + y287.length < 4398046511104 then ((some (x6_2 ++ y287 : List (S23))).bind fun y290 => (if x8_2 = true then (if x9_2 = true then (pannierlaw10_FoldTruths.l0 k2 l0 l1 y284 y290 true true (wrap64 (x10_2 + 1))) else (pannierlaw10_FoldTruths.l0 k2 l0 l1 y284 y290 true true (wrap64 (x10_2 + 1)))) else (if x9_2 = true then (pannierlaw10_FoldTruths.l0 k2 l0 l1 y284 y290 false true (wrap64 (x10_2 + 1))) else (pannierlaw10_FoldTruths.l0 k2 l0 l1 y284 y290 false true (wrap64 (x10_2 + 1)))))) else (none))) = some r := by first | (rw [hy284]; with_reducible exact H) | (have H2_ := (Option.bind_some _ _).symm.trans H; rw [hy284]; with_reducible exact H2_) | (have H2_ := (Option.bind_some _ _).symm.trans H; with_reducible exact H2_) | with_reducible exact H | (rw [hy284]; exact H) | exact H
                    have Ny284 := Aside0.mk hy284
                    clear hy284
                    obtain ⟨y287, hy287⟩ : ∃ y_ : List (S23), y_ = (([(⟨1, 0, (⟨#[]⟩ : ByteArray)⟩ : S23)] : List (S23))) := ⟨_, rfl⟩
                    replace H : (if x6_2.length + y287.length < 4398046511104 then ((some (x6_2 ++ y287 : List (S23))).bind fun y290 => (if x8_2 = true then (if x9_2 = true then (pannierlaw10_FoldTruths.l0 k2 l0 l1 y284 y290 true true (wrap64 (x10_2 + 1))) else (pannierlaw10_FoldTruths.l0 k2 l0 l1 y284 y290 true true (wrap64 (x10_2 + 1)))) else (if x9_2 = true then (pannierlaw10_FoldTruths.l0 k2 l0 l1 y284 y290 false true (wrap64 (x10_2 + 1))) else (pannierlaw10_FoldTruths.l0 k2 l0 l1 y284 y290 false true (wrap64 (x10_2 + 1)))))) else (none)) = some r := by first | (rw [hy287]; with_reducible exact H) | (have H2_ := (Option.bind_some _ _).symm.trans H; rw [hy287]; with_reducible exact H2_) | (have H2_ := (Option.bind_some _ _).symm.trans H; with_reducible exact H2_) | with_reducible exact H | (rw [hy287]; exact H) | exact H
                    have Ny287 := Aside0.mk hy287
                    clear hy287
                    by_cases c14 : x6_2.length + y287.length < 4398046511104
                    · rw [if_pos c14] at H
                      have LMc14 := Aside0.mk c14
                      clear c14
                      obtain ⟨y290, hy290⟩ : ∃ y_ : List (S23), y_ = (x6_2 ++ y287) := ⟨_, rfl⟩
                      replace H : (if x8_2 = true then (if x9_2 = true then (pannierlaw10_FoldTruths.l0 k2 l0 l1 y284 y290 true true (wrap64 (x10_2 + 1))) else (pannierlaw10_FoldTruths.l0 k2 l0 l1 y284 y290 true true (wrap64 (x10_2 + 1)))) else (if x9_2 = true then (pannierlaw10_FoldTruths.l0 k2 l0 l1 y284 y290 false true (wrap64 (x10_2 + 1))) else (pannierlaw10_FoldTruths.l0 k2 l0 l1 y284 y290 false true (wrap64 (x10_2 + 1))))) = some r := by first | (rw [hy290]; with_reducible exact H) | (have H2_ := (Option.bind_some _ _).symm.trans H; rw [hy290]; with_reducible exact H2_) | (have H2_ := (Option.bind_some _ _).symm.trans H; with_reducible exact H2_) | with_reducible exact H | (rw [hy290]; exact H) | exact H
                      have Ny290 := Aside0.mk hy290
                      clear hy290
                      have H4 : (pannierlaw10_FoldTruths.l0 k2 l0 l1 y284 y290 (x8_2 && true) (x9_2 || true) (wrap64 (x10_2 + 1))) = some r := by revert H; cases x8_2 <;> cases x9_2 <;> first | exact id | (intro h_; simpa using h_)
                      clear H
                      have H' := Aside0.mk H4
                      clear H4
                      try go_wp2_with (first | ((with_reducible refine gate_dst (N := 11) rfl ?_); (try (refine gate_guard (by rfl) ?_; dsimp only)); refine box_event ?hg (N := 11) ?hd (cs := #[.int .i64 0, .int .i64 0, .string (⟨#[]⟩ : ByteArray)]) (t := 23) ?hr ?_; (case hd => rfl); (case hg => rfl); (case hr => first | (go_simp; done) | (go_simp; rfl)); intro gb278 hg w17 hbox hb; have n0_ := Aside0.mk (Kd.R_below (Kd.R_elderB (by (with_reducible repeat (first | apply Kd.R_alloc | apply Kd.R_drewN | apply Kd.R_drew)); exact HO_5.out) gb278 (Nat.le_of_eq hg.symm)) hb); have n1_ := Aside0.mk (Kd.R_below (Kd.R_elderB (by (with_reducible repeat (first | apply Kd.R_alloc | apply Kd.R_drewN | apply Kd.R_drew)); exact HO_6.out) gb278 (Nat.le_of_eq hg.symm)) hb); have n2_ := Aside0.mk (below_step (by repeat first | with_reducible exact HB.out | apply zS | exact HB.out) hb); have n3_ := Aside0.mk (hbox); have n4_ := Aside0.mk ((by rw [hg]; exact (below_size (by repeat first | with_reducible exact HB.out | apply zS | exact HB.out)) : w.heap.size ≤ gb278)); have n5_ := n4_; clear HO_5; clear HO_6; clear HB; have HO_5 := n0_; have HO_6 := n1_; have HB := n2_; have BK278 := n3_; have GW278 := n4_; have GE278 := n5_; clear n0_ n1_ n2_ n3_ n4_ n5_; clear hb hbox hg) | ((with_reducible refine gate_dst (N := 12) rfl ?_); (try (refine gate_guard (by rfl) ?_; dsimp only)); refine box_event ?hg (N := 12) ?hd (cs := #[.int .i64 0, .int .i64 0, .string (⟨#[]⟩ : ByteArray)]) (t := 23) ?hr ?_; (case hd => rfl); (case hg => rfl); (case hr => first | (go_simp; done) | (go_simp; rfl)); intro gb279 hg w18 hbox hb; have n0_ := Aside0.mk (Kd.R_below (Kd.R_elderB (by (with_reducible repeat (first | apply Kd.R_alloc | apply Kd.R_drewN | apply Kd.R_drew)); exact HO_5.out) gb279 (Nat.le_of_eq hg.symm)) hb); have n1_ := Aside0.mk (Kd.R_below (Kd.R_elderB (by (with_reducible repeat (first | apply Kd.R_alloc | apply Kd.R_drewN | apply Kd.R_drew)); exact HO_6.out) gb279 (Nat.le_of_eq hg.symm)) hb); have n2_ := Aside0.mk (blk_below (g := gb278) (o := .cells #[.int .i64 0, .int .i64 0, .string (⟨#[]⟩ : ByteArray)] 23 (0, 0)) (zB BK278.out) hb); have n3_ := Aside0.mk (below_step (by repeat first | with_reducible exact HB.out | apply zS | refine below_set ?_ GE278.out | exact HB.out) hb); have n4_ := Aside0.mk (hbox); have n5_ := Aside0.mk ((by rw [hg]; exact (below_size (by repeat first | with_reducible exact HB.out | apply zS | refine below_set ?_ GE278.out | exact HB.out)) : w.heap.size ≤ gb279)); have n6_ := n5_; have n7_ := Aside0.mk ((by rw [hg]; exact Nat.ne_of_lt (blk_lt (g := gb278) (o := .cells #[.int .i64 0, .int .i64 0, .string (⟨#[]⟩ : ByteArray)] 23 (0, 0)) (zB BK278.out)) : gb278 ≠ gb279)); have n8_ := Aside0.mk ((by rw [hg]; exact Nat.ne_of_gt (blk_lt (g := gb278) (o := .cells #[.int .i64 0, .int .i64 0, .string (⟨#[]⟩ : ByteArray)] 23 (0, 0)) (zB BK278.out)) : gb279 ≠ gb278)); clear HO_5; clear HO_6; clear BK278; clear HB; have HO_5 := n0_; have HO_6 := n1_; have BK278 := n2_; have HB := n3_; have BK279 := n4_; have GW279 := n5_; have GE279 := n6_; have NB278_279 := n7_; have NB279_278 := n8_; clear n0_ n1_ n2_ n3_ n4_ n5_ n6_ n7_ n8_; clear hb hbox hg; have hnb19 := NB278_279.out; have hnc19 := NB279_278.out; obtain ⟨hcz20_0, hcz20_1, hcz20_2, hfz20_0, hfz20_1, hfz20_2⟩ := zC3 BK278.out; obtain ⟨hcz21_0, hcz21_1, hcz21_2, hfz21_0, hfz21_1, hfz21_2⟩ := zC3 BK279.out; have p280 : 0 ≤ (x10_2 : Int) := of_decide_eq_true (by first | (with_reducible assumption) | assumption); have q280 : x10_2 < (l0.length : Int) := of_decide_eq_true (by first | (with_reducible assumption) | assumption); obtain ⟨ad280, e280, hx280_0⟩ := Kd.at_bool HR0.out x10_2 p280 q280; (try rw [← Nbq11.out] at hx280_0); cases e280; have hn280_0 : ad280.block ≠ gb278 := Nat.ne_of_lt (Nat.lt_of_lt_of_le (by have := World.block_lt_of_cell? _ _ hx280_0; first | rwa [add_block] at this | exact this) GW278.out); have hn280_1 : ad280.block ≠ gb278 := Nat.ne_of_lt (Nat.lt_of_lt_of_le (by have := World.block_lt_of_cell? _ _ hx280_0; first | rwa [add_block] at this | exact this) GW278.out); have hn280_2 : ad280.block ≠ gb278 := Nat.ne_of_lt (Nat.lt_of_lt_of_le (by have := World.block_lt_of_cell? _ _ hx280_0; first | rwa [add_block] at this | exact this) GW278.out); have hn280_3 : ad280.block ≠ gb279 := Nat.ne_of_lt (Nat.lt_of_lt_of_le (by have := World.block_lt_of_cell? _ _ hx280_0; first | rwa [add_block] at this | exact this) GW279.out); have hn280_4 : ad280.block ≠ gb279 := Nat.ne_of_lt (Nat.lt_of_lt_of_le (by have := World.block_lt_of_cell? _ _ hx280_0; first | rwa [add_block] at this | exact this) GW279.out); have hn280_5 : ad280.block ≠ gb279 := Nat.ne_of_lt (Nat.lt_of_lt_of_le (by have := World.block_lt_of_cell? _ _ hx280_0; first | rwa [add_block] at this | exact this) GW279.out); replace hx280_0 := (HB.out.cell (World.block_lt_of_cell? w _ hx280_0)).trans hx280_0; replace hx280_0 := (cell_far (p := ⟨gb278, 0, none⟩) (by first | (rw [add_block]; exact hn280_0) | (show (Addr.add _ _).block ≠ _; rw [add_block]; exact hn280_0) | exact hn280_0) (.int .i64 1)).trans hx280_0; replace hx280_0 := (cell_far (p := ⟨gb278, 1, none⟩) (by first | (rw [add_block]; exact hn280_1) | (show (Addr.add _ _).block ≠ _; rw [add_block]; exact hn280_1) | exact hn280_1) (.int .i64 0)).trans hx280_0; replace hx280_0 := (cell_far (p := ⟨gb278, 2, none⟩) (by first | (rw [add_block]; exact hn280_2) | (show (Addr.add _ _).block ≠ _; rw [add_block]; exact hn280_2) | exact hn280_2) (.string (⟨#[]⟩ : ByteArray))).trans hx280_0; replace hx280_0 := (cell_far (p := ⟨gb279, 0, none⟩) (by first | (rw [add_block]; exact hn280_3) | (show (Addr.add _ _).block ≠ _; rw [add_block]; exact hn280_3) | exact hn280_3) (.int .i64 1)).trans hx280_0; replace hx280_0 := (cell_far (p := ⟨gb279, 1, none⟩) (by first | (rw [add_block]; exact hn280_4) | (show (Addr.add _ _).block ≠ _; rw [add_block]; exact hn280_4) | exact hn280_4) (.int .i64 1)).trans hx280_0; replace hx280_0 := (cell_far (p := ⟨gb279, 2, none⟩) (by first | (rw [add_block]; exact hn280_5) | (show (Addr.add _ _).block ≠ _; rw [add_block]; exact hn280_5) | exact hn280_5) (.string (⟨#[]⟩ : ByteArray))).trans hx280_0; clear hn280_0; clear hn280_1; clear hn280_2; clear hn280_3; clear hn280_4; clear hn280_5; replace p280 := eq_true p280; replace q280 := eq_true q280; obtain ⟨Ao22, co22, eo22⟩ := Kd.R_slice HO_5.out; subst eo22; obtain ⟨Ao23, co23, eo23⟩ := Kd.R_slice HO_6.out; subst eo23))
                      have n0_ : Aside0 (Kd.R k23 23 ((((((((((((w18.setCell ⟨gb278, 0, none⟩ (.int .i64 1)).setCell ⟨gb278, 1, none⟩ (.int .i64 0)).setCell ⟨gb278, 2, none⟩ (.string (⟨#[]⟩ : ByteArray))).setCell ⟨gb279, 0, none⟩ (.int .i64 1)).setCell ⟨gb279, 1, none⟩ (.int .i64 1)).setCell ⟨gb279, 2, none⟩ (.string (⟨#[]⟩ : ByteArray))).setCell ⟨gb278, 0, none⟩ (.int .i64 1)).setCell ⟨gb278, 1, none⟩ (.int .i64 1)).setCell ⟨gb278, 2, none⟩ (.string (⟨#[]⟩ : ByteArray))).setCell ⟨gb279, 0, none⟩ (.int .i64 1)).setCell ⟨gb279, 1, none⟩ (.int .i64 0)).setCell ⟨gb279, 2, none⟩ (.string (⟨#[]⟩ : ByteArray))) w.heap.size (fun k_ => some k_ ≠ (.slice Ao23 x6_2.length co23 : Value).ownBlock ∧ k_ ≠ gb278 ∧ k_ ≠ gb279) (.slice Ao22 x5_2.length co22) x5_2) := ⟨by (with_reducible repeat (first | apply Kd.R_alloc | apply Kd.R_drewN | apply Kd.R_drew)); exact Kd.R_mono (Kd.R_far (p := ⟨gb279, 2, none⟩) (Kd.R_far (p := ⟨gb279, 1, none⟩) (Kd.R_far (p := ⟨gb279, 0, none⟩) (Kd.R_far (p := ⟨gb278, 2, none⟩) (Kd.R_far (p := ⟨gb278, 1, none⟩) (Kd.R_far (p := ⟨gb278, 0, none⟩) (Kd.R_far (p := ⟨gb279, 2, none⟩) (Kd.R_far (p := ⟨gb279, 1, none⟩) (Kd.R_far (p := ⟨gb279, 0, none⟩) (Kd.R_far (p := ⟨gb278, 2, none⟩) (Kd.R_far (p := ⟨gb278, 1, none⟩) (Kd.R_far (p := ⟨gb278, 0, none⟩) (Kd.R_mono (Kd.R_mono HO_5.out (fun k_ hk => (⟨hk, hk.1.2⟩ : _ ∧ k_ ≠ gb278))) (fun k_ hk => (⟨hk, hk.1.2⟩ : _ ∧ k_ ≠ gb279))) (fun _ hk => hk.1.2) (.int .i64 1)) (fun _ hk => hk.1.2) (.int .i64 0)) (fun _ hk => hk.1.2) (.string (⟨#[]⟩ : ByteArray))) (fun _ hk => hk.2) (.int .i64 1)) (fun _ hk => hk.2) (.int .i64 1)) (fun _ hk => hk.2) (.string (⟨#[]⟩ : ByteArray))) (fun _ hk => hk.1.2) (.int .i64 1)) (fun _ hk => hk.1.2) (.int .i64 1)) (fun _ hk => hk.1.2) (.string (⟨#[]⟩ : ByteArray))) (fun _ hk => hk.2) (.int .i64 1)) (fun _ hk => hk.2) (.int .i64 0)) (fun _ hk => hk.2) (.string (⟨#[]⟩ : ByteArray))) (fun _ hk => ⟨hk.1.1.1.1, ⟨hk.1.1.1.2, hk.1.1.2⟩⟩)⟩
                      have n1_ : Aside0 (Kd.R k23 23 ((((((((((((w18.setCell ⟨gb278, 0, none⟩ (.int .i64 1)).setCell ⟨gb278, 1, none⟩ (.int .i64 0)).setCell ⟨gb278, 2, none⟩ (.string (⟨#[]⟩ : ByteArray))).setCell ⟨gb279, 0, none⟩ (.int .i64 1)).setCell ⟨gb279, 1, none⟩ (.int .i64 1)).setCell ⟨gb279, 2, none⟩ (.string (⟨#[]⟩ : ByteArray))).setCell ⟨gb278, 0, none⟩ (.int .i64 1)).setCell ⟨gb278, 1, none⟩ (.int .i64 1)).setCell ⟨gb278, 2, none⟩ (.string (⟨#[]⟩ : ByteArray))).setCell ⟨gb279, 0, none⟩ (.int .i64 1)).setCell ⟨gb279, 1, none⟩ (.int .i64 0)).setCell ⟨gb279, 2, none⟩ (.string (⟨#[]⟩ : ByteArray))) w.heap.size (fun k_ => some k_ ≠ (.slice Ao22 x5_2.length co22 : Value).ownBlock ∧ k_ ≠ gb278 ∧ k_ ≠ gb279) (.slice Ao23 x6_2.length co23) x6_2) := ⟨by (with_reducible repeat (first | apply Kd.R_alloc | apply Kd.R_drewN | apply Kd.R_drew)); exact Kd.R_mono (Kd.R_far (p := ⟨gb279, 2, none⟩) (Kd.R_far (p := ⟨gb279, 1, none⟩) (Kd.R_far (p := ⟨gb279, 0, none⟩) (Kd.R_far (p := ⟨gb278, 2, none⟩) (Kd.R_far (p := ⟨gb278, 1, none⟩) (Kd.R_far (p := ⟨gb278, 0, none⟩) (Kd.R_far (p := ⟨gb279, 2, none⟩) (Kd.R_far (p := ⟨gb279, 1, none⟩) (Kd.R_far (p := ⟨gb279, 0, none⟩) (Kd.R_far (p := ⟨gb278, 2, none⟩) (Kd.R_far (p := ⟨gb278, 1, none⟩) (Kd.R_far (p := ⟨gb278, 0, none⟩) (Kd.R_mono (Kd.R_mono HO_6.out (fun k_ hk => (⟨hk, hk.1.2⟩ : _ ∧ k_ ≠ gb278))) (fun k_ hk => (⟨hk, hk.1.2⟩ : _ ∧ k_ ≠ gb279))) (fun _ hk => hk.1.2) (.int .i64 1)) (fun _ hk => hk.1.2) (.int .i64 0)) (fun _ hk => hk.1.2) (.string (⟨#[]⟩ : ByteArray))) (fun _ hk => hk.2) (.int .i64 1)) (fun _ hk => hk.2) (.int .i64 1)) (fun _ hk => hk.2) (.string (⟨#[]⟩ : ByteArray))) (fun _ hk => hk.1.2) (.int .i64 1)) (fun _ hk => hk.1.2) (.int .i64 1)) (fun _ hk => hk.1.2) (.string (⟨#[]⟩ : ByteArray))) (fun _ hk => hk.2) (.int .i64 1)) (fun _ hk => hk.2) (.int .i64 0)) (fun _ hk => hk.2) (.string (⟨#[]⟩ : ByteArray))) (fun _ hk => ⟨hk.1.1.1.1, ⟨hk.1.1.1.2, hk.1.1.2⟩⟩)⟩
                      have n2_ : Aside0 (((((((((((((w18.setCell ⟨gb278, 0, none⟩ (.int .i64 1)).setCell ⟨gb278, 1, none⟩ (.int .i64 0)).setCell ⟨gb278, 2, none⟩ (.string (⟨#[]⟩ : ByteArray))).setCell ⟨gb279, 0, none⟩ (.int .i64 1)).setCell ⟨gb279, 1, none⟩ (.int .i64 1)).setCell ⟨gb279, 2, none⟩ (.string (⟨#[]⟩ : ByteArray))).setCell ⟨gb278, 0, none⟩ (.int .i64 1)).setCell ⟨gb278, 1, none⟩ (.int .i64 1)).setCell ⟨gb278, 2, none⟩ (.string (⟨#[]⟩ : ByteArray))).setCell ⟨gb279, 0, none⟩ (.int .i64 1)).setCell ⟨gb279, 1, none⟩ (.int .i64 0)).setCell ⟨gb279, 2, none⟩ (.string (⟨#[]⟩ : ByteArray))).heap[gb278]? = some (.cells #[.int .i64 1, .int .i64 1, .string (⟨#[]⟩ : ByteArray)] 23 (0, 0))) := ⟨by refine zB (blk_far ?_ NB278_279.out _); refine zB ?_; refine blk_far ?_ NB278_279.out _; refine zB (blk_far ?_ NB278_279.out _); refine zB ?_; refine blk_put (cs := #[.int .i64 1, .int .i64 1, .string (⟨#[]⟩ : ByteArray)]) ?_ 2 _ rfl; refine zB ?_; refine blk_put (cs := #[.int .i64 1, .int .i64 0, .string (⟨#[]⟩ : ByteArray)]) ?_ 1 _ rfl; refine zB ?_; refine blk_put (cs := #[.int .i64 1, .int .i64 0, .string (⟨#[]⟩ : ByteArray)]) ?_ 0 _ rfl; refine zB (blk_far ?_ NB278_279.out _); refine zB ?_; refine blk_far ?_ NB278_279.out _; refine zB (blk_far ?_ NB278_279.out _); refine zB ?_; refine blk_put (cs := #[.int .i64 1, .int .i64 0, .string (⟨#[]⟩ : ByteArray)]) ?_ 2 _ rfl; refine zB ?_; refine blk_put (cs := #[.int .i64 1, .int .i64 0, .string (⟨#[]⟩ : ByteArray)]) ?_ 1 _ rfl; refine zB ?_; refine blk_put (cs := #[.int .i64 0, .int .i64 0, .string (⟨#[]⟩ : ByteArray)]) ?_ 0 _ rfl; refine zB ?_; exact BK278.out⟩
                      have n3_ : Aside0 (((((((((((((w18.setCell ⟨gb278, 0, none⟩ (.int .i64 1)).setCell ⟨gb278, 1, none⟩ (.int .i64 0)).setCell ⟨gb278, 2, none⟩ (.string (⟨#[]⟩ : ByteArray))).setCell ⟨gb279, 0, none⟩ (.int .i64 1)).setCell ⟨gb279, 1, none⟩ (.int .i64 1)).setCell ⟨gb279, 2, none⟩ (.string (⟨#[]⟩ : ByteArray))).setCell ⟨gb278, 0, none⟩ (.int .i64 1)).setCell ⟨gb278, 1, none⟩ (.int .i64 1)).setCell ⟨gb278, 2, none⟩ (.string (⟨#[]⟩ : ByteArray))).setCell ⟨gb279, 0, none⟩ (.int .i64 1)).setCell ⟨gb279, 1, none⟩ (.int .i64 0)).setCell ⟨gb279, 2, none⟩ (.string (⟨#[]⟩ : ByteArray))).heap[gb279]? = some (.cells #[.int .i64 1, .int .i64 0, .string (⟨#[]⟩ : ByteArray)] 23 (0, 0))) := ⟨by refine zB ?_; refine blk_put (cs := #[.int .i64 1, .int .i64 0, .string (⟨#[]⟩ : ByteArray)]) ?_ 2 _ rfl; refine zB ?_; refine blk_put (cs := #[.int .i64 1, .int .i64 1, .string (⟨#[]⟩ : ByteArray)]) ?_ 1 _ rfl; refine zB ?_; refine blk_put (cs := #[.int .i64 1, .int .i64 1, .string (⟨#[]⟩ : ByteArray)]) ?_ 0 _ rfl; refine zB (blk_far ?_ NB279_278.out _); refine zB ?_; refine blk_far ?_ NB279_278.out _; refine zB (blk_far ?_ NB279_278.out _); refine zB ?_; refine blk_put (cs := #[.int .i64 1, .int .i64 1, .string (⟨#[]⟩ : ByteArray)]) ?_ 2 _ rfl; refine zB ?_; refine blk_put (cs := #[.int .i64 1, .int .i64 0, .string (⟨#[]⟩ : ByteArray)]) ?_ 1 _ rfl; refine zB ?_; refine blk_put (cs := #[.int .i64 0, .int .i64 0, .string (⟨#[]⟩ : ByteArray)]) ?_ 0 _ rfl; refine zB (blk_far ?_ NB279_278.out _); refine zB ?_; refine blk_far ?_ NB279_278.out _; refine zB (blk_far ?_ NB279_278.out _); refine zB ?_; exact BK279.out⟩
                      have n4_ : Aside0 (Below w.heap.size w ((((((((((((w18.setCell ⟨gb278, 0, none⟩ (.int .i64 1)).setCell ⟨gb278, 1, none⟩ (.int .i64 0)).setCell ⟨gb278, 2, none⟩ (.string (⟨#[]⟩ : ByteArray))).setCell ⟨gb279, 0, none⟩ (.int .i64 1)).setCell ⟨gb279, 1, none⟩ (.int .i64 1)).setCell ⟨gb279, 2, none⟩ (.string (⟨#[]⟩ : ByteArray))).setCell ⟨gb278, 0, none⟩ (.int .i64 1)).setCell ⟨gb278, 1, none⟩ (.int .i64 1)).setCell ⟨gb278, 2, none⟩ (.string (⟨#[]⟩ : ByteArray))).setCell ⟨gb279, 0, none⟩ (.int .i64 1)).setCell ⟨gb279, 1, none⟩ (.int .i64 0)).setCell ⟨gb279, 2, none⟩ (.string (⟨#[]⟩ : ByteArray)))) := ⟨by repeat first | with_reducible exact HB.out | apply zS | refine below_set ?_ GE278.out | refine below_set ?_ GE279.out | exact HB.out⟩
                      (try clear HO_5)
                      (try clear HO_6)
                      (try clear BK278)
                      (try clear BK279)
                      (try clear HB)
                      generalize ((((((((((((w18.setCell ⟨gb278, 0, none⟩ (.int .i64 1)).setCell ⟨gb278, 1, none⟩ (.int .i64 0)).setCell ⟨gb278, 2, none⟩ (.string (⟨#[]⟩ : ByteArray))).setCell ⟨gb279, 0, none⟩ (.int .i64 1)).setCell ⟨gb279, 1, none⟩ (.int .i64 1)).setCell ⟨gb279, 2, none⟩ (.string (⟨#[]⟩ : ByteArray))).setCell ⟨gb278, 0, none⟩ (.int .i64 1)).setCell ⟨gb278, 1, none⟩ (.int .i64 1)).setCell ⟨gb278, 2, none⟩ (.string (⟨#[]⟩ : ByteArray))).setCell ⟨gb279, 0, none⟩ (.int .i64 1)).setCell ⟨gb279, 1, none⟩ (.int .i64 0)).setCell ⟨gb279, 2, none⟩ (.string (⟨#[]⟩ : ByteArray))) = w24 at n0_ n1_ n2_ n3_ n4_ ⊢
                      have HO_5 := n0_
                      have HO_6 := n1_
                      have BK278 := n2_
                      have BK279 := n3_
                      have HB := n4_
                      clear n0_ n1_ n2_ n3_ n4_
                      have n0_ := Aside0.mk (Kd.R_drew HO_5.out)
                      have n1_ := Aside0.mk (Kd.R_drew HO_6.out)
                      have n2_ := Aside0.mk (blk_drew BK278.out)
                      have n3_ := Aside0.mk (blk_drew BK279.out)
                      have n4_ := Aside0.mk (below_drew1 HB.out)
                      clear HO_5
                      clear HO_6
                      clear BK278
                      clear BK279
                      clear HB
                      have HO_5 := n0_
                      have HO_6 := n1_
                      have BK278 := n2_
                      have BK279 := n3_
                      have HB := n4_
                      clear n0_ n1_ n2_ n3_ n4_
                      refine start_ (n := 10) (S := fun w' => w'.cell? ⟨gb278, 0, none⟩ = some (.int .i64 1) ∧ w'.cell? ⟨gb278, 1, none⟩ = some (.int .i64 1) ∧ w'.cell? ⟨gb278, 2, none⟩ = some (.string (⟨#[]⟩ : ByteArray)) ∧ w'.cell? ⟨gb279, 0, none⟩ = some (.int .i64 1) ∧ w'.cell? ⟨gb279, 1, none⟩ = some (.int .i64 0) ∧ w'.cell? ⟨gb279, 2, none⟩ = some (.string (⟨#[]⟩ : ByteArray))) (ds := []) #[false, false, false, false, false, false, false, false, false, false] (by kernel_rfl) rfl rfl ⟨(blk_cell BK278.out 0).trans rfl, (blk_cell BK278.out 1).trans rfl, (blk_cell BK278.out 2).trans rfl, (blk_cell BK279.out 0).trans rfl, (blk_cell BK279.out 1).trans rfl, (blk_cell BK279.out 2).trans rfl⟩ (fun hHeld => ?_); refine with_tabW pannierlaw10_FoldTruths.tab11 pannierlaw10_FoldTruths.bits11 (fun HT_ HW_ => ?_)
                      generalize w24.drew = w25 at HO_5 HO_6 BK278 BK279 HB hHeld ⊢
                      refine pure_ (i := 0) (N := some 51) (v := ?_) (a' := ?_) #[true, false, false, false, false, false, false, false, false, false] rfl rfl (any_of HT_.out (by kernel_rfl)) (fun _ _ _ h => h) (Or.inl ⟨by rfl, ?_⟩) ?_ ?_
                      rotate_left
                      · intro w'
                        go_simp
                        with_reducible rfl
                      rotate_left
                      · simp only [Act.put, List.setIfInBounds_toArray, List.set_cons_zero, List.set_cons_succ, i64_w, i32_w]
                        rfl
                      refine pure_ (i := 4) (N := some 55) (v := ?_) (a' := ?_) #[true, false, false, false, true, false, false, false, false, false] rfl rfl (any_of HT_.out (by kernel_rfl)) (fun _ _ _ h => h) (Or.inl ⟨by rfl, ?_⟩) ?_ ?_
                      rotate_left
                      · intro w'
                        go_simp
                        with_reducible rfl
                      rotate_left
                      · simp only [Act.put, List.setIfInBounds_toArray, List.set_cons_zero, List.set_cons_succ, i64_w, i32_w]
                        rfl
                      refine take_ (i := 1) (N := some 52) (v := ?_) (a' := ?_) #[true, true, false, false, true, false, false, false, false, false] rfl rfl (take_ofW HT_.out HW_.out (by kernel_rfl)) (fun _ _ _ h => h) (Or.inl ⟨by rfl, ?_⟩) hHeld ?_ ?_
                      rotate_left
                      · rintro w' ⟨s0, s1, s2, s3, s4, s5⟩
                        go_simp
                        with_reducible rfl
                      rotate_left
                      · simp only [Act.put, List.setIfInBounds_toArray, List.set_cons_zero, List.set_cons_succ, i64_w, i32_w]
                        rfl
                      refine take_ (i := 5) (N := some 56) (v := ?_) (a' := ?_) #[true, true, false, false, true, true, false, false, false, false] rfl rfl (take_ofW HT_.out HW_.out (by kernel_rfl)) (fun _ _ _ h => h) (Or.inl ⟨by rfl, ?_⟩) hHeld ?_ ?_
                      rotate_left
                      · rintro w' ⟨s0, s1, s2, s3, s4, s5⟩
                        go_simp
                        with_reducible rfl
                      rotate_left
                      · simp only [Act.put, List.setIfInBounds_toArray, List.set_cons_zero, List.set_cons_succ, i64_w, i32_w]
                        rfl
                      refine join_ (σ := Value × Value × Value) 3 #[true, true, true, true, true, true, true, false, false, false] (fun s_ => [(53, s_.1), (54, s_.2.1), (57, s_.2.2)]) (fun s_ w' => (w'.cell? ⟨gb278, 0, none⟩ = some (.int .i64 1) ∧ w'.cell? ⟨gb278, 1, none⟩ = some (.int .i64 1) ∧ w'.cell? ⟨gb278, 2, none⟩ = some (.string (⟨#[]⟩ : ByteArray)) ∧ w'.cell? ⟨gb279, 0, none⟩ = some (.int .i64 1) ∧ w'.cell? ⟨gb279, 1, none⟩ = some (.int .i64 0) ∧ w'.cell? ⟨gb279, 2, none⟩ = some (.string (⟨#[]⟩ : ByteArray))) ∧ (Kd.R k23 23 w' w.heap.size (fun k_ => some k_ ≠ (s_.2.1 : Value).ownBlock ∧ some k_ ≠ (s_.2.2 : Value).ownBlock ∧ some k_ ≠ (.slice Ao23 x6_2.length co23 : Value).ownBlock ∧ k_ ≠ gb278 ∧ k_ ≠ gb279) s_.1 y281) ∧ (Kd.R k23 23 w' w.heap.size (fun k_ => some k_ ≠ (s_.1 : Value).ownBlock ∧ some k_ ≠ (s_.2.2 : Value).ownBlock ∧ some k_ ≠ (.slice Ao23 x6_2.length co23 : Value).ownBlock ∧ k_ ≠ gb278 ∧ k_ ≠ gb279) s_.2.1 y284) ∧ (Kd.R k23 23 w' w.heap.size (fun k_ => some k_ ≠ (s_.1 : Value).ownBlock ∧ some k_ ≠ (s_.2.1 : Value).ownBlock ∧ some k_ ≠ (.slice Ao23 x6_2.length co23 : Value).ownBlock ∧ k_ ≠ gb278 ∧ k_ ≠ gb279) s_.2.2 y287) ∧ (Kd.R k23 23 w' w.heap.size (fun k_ => some k_ ≠ (s_.1 : Value).ownBlock ∧ some k_ ≠ (s_.2.1 : Value).ownBlock ∧ some k_ ≠ (s_.2.2 : Value).ownBlock ∧ k_ ≠ gb278 ∧ k_ ≠ gb279) (.slice Ao23 x6_2.length co23) x6_2) ∧ (w'.heap[gb278]? = some (.cells #[.int .i64 1, .int .i64 1, .string (⟨#[]⟩ : ByteArray)] 23 (0, 0))) ∧ (w'.heap[gb279]? = some (.cells #[.int .i64 1, .int .i64 0, .string (⟨#[]⟩ : ByteArray)] 23 (0, 0))) ∧ (Below w.heap.size w w')) ?_ ?_
                      rotate_left
                      · intro hCont
                        refine two_ (i := 2) (j := 6) (Ni := some 53) (Nj := some 57) #[true, true, true, false, true, true, false, false, false, false] #[true, true, false, false, true, true, true, false, false, false] rfl rfl rfl rfl (two_of HT_.out (by kernel_rfl)) (by decide) (by decide) (fun K hK => ?_) (fun K hK => ?_)
                        · skip
                          refine Kd.R_lit_step k23 _ 23 ?hg (N := 53) ?hd (xs := ([(⟨1, 1, (⟨#[]⟩ : ByteArray)⟩ : S23)] : List (S23))) (inner := [.int .i64 1, .int .i64 1, .string (⟨#[]⟩ : ByteArray)]) (ok := fun _ => True) (okp := fun _ => True) ?hr ?hp (fun _ hk => hk) trivial (Below.refl _ _) (Nat.le_refl _) (by simp) ?_; (case hd => rfl); (case hg => rfl); (case hr => first | (go_simp; done) | (go_simp; rfl)); (case hp => exact (Reps.c3 (show Kd.M k23 _ _ _ (⟨1, 1, (⟨#[]⟩ : ByteArray)⟩ : S23) [.int .i64 1, .int .i64 1, .string (⟨#[]⟩ : ByteArray)] from (k23_mkM _ _ _ (⟨1, 1, (⟨#[]⟩ : ByteArray)⟩ : S23) )) (Reps.none _ _)))
                          intro v282 w26 ho27 hb hg_ hnew_
                          clear hg_ hnew_
                          (first | rw [← Ny281.out] at ho27 | (simp only [Int.reduceToNat] at ho27; rw [← Ny281.out] at ho27))
                          have n0_ := Aside0.mk (Kd.R_elder' (by (with_reducible repeat (first | apply Kd.R_alloc | apply Kd.R_drewN | apply Kd.R_drew)); exact HO_5.out) (Kd.R_base ho27) hb)
                          have n1_ := Aside0.mk (Kd.R_elder' (by (with_reducible repeat (first | apply Kd.R_alloc | apply Kd.R_drewN | apply Kd.R_drew)); exact HO_6.out) (Kd.R_base ho27) hb)
                          have n2_ := Aside0.mk (Kd.R_lower (Kd.R_newB (Kd.R_newB (Kd.R_new' (Kd.R_new' ho27 (Kd.R_lt (by (with_reducible repeat (first | apply Kd.R_alloc | apply Kd.R_drewN | apply Kd.R_drew)); exact HO_5.out))) (Kd.R_lt (by (with_reducible repeat (first | apply Kd.R_alloc | apply Kd.R_drewN | apply Kd.R_drew)); exact HO_6.out))) (g := gb278) (o := .cells #[.int .i64 1, .int .i64 1, .string (⟨#[]⟩ : ByteArray)] 23 (0, 0)) (zB BK278.out)) (g := gb279) (o := .cells #[.int .i64 1, .int .i64 0, .string (⟨#[]⟩ : ByteArray)] 23 (0, 0)) (zB BK279.out)) (below_size (by repeat first | with_reducible exact HB.out | apply zS | refine below_set ?_ GE278.out | refine below_set ?_ GE279.out | exact HB.out)))
                          have n3_ := Aside0.mk (blk_below (g := gb278) (o := .cells #[.int .i64 1, .int .i64 1, .string (⟨#[]⟩ : ByteArray)] 23 (0, 0)) (zB BK278.out) hb)
                          have n4_ := Aside0.mk (blk_below (g := gb279) (o := .cells #[.int .i64 1, .int .i64 0, .string (⟨#[]⟩ : ByteArray)] 23 (0, 0)) (zB BK279.out) hb)
                          have n5_ := Aside0.mk (below_step (by repeat first | with_reducible exact HB.out | apply zS | refine below_set ?_ GE278.out | refine below_set ?_ GE279.out | exact HB.out) hb)
                          clear HO_5
                          clear HO_6
                          clear BK278
                          clear BK279
                          clear HB
                          have HO_5 := n0_
                          have HO_6 := n1_
                          have HO283 := n2_
                          have BK278 := n3_
                          have BK279 := n4_
                          have HB := n5_
                          clear n0_ n1_ n2_ n3_ n4_ n5_
                          clear hb ho27
                          obtain ⟨Ao29, co29, eo29⟩ := Kd.R_slice HO283.out
                          (first | subst eo29 | (injection eo29 with f1_ f2_ f3_; have f4_ := f1_.symm; have f5_ := f3_.symm; clear f1_ f2_ f3_; subst f4_; subst f5_))
                          refine hK.out _ _ ⟨(blk_cell BK278.out 0).trans rfl, (blk_cell BK278.out 1).trans rfl, (blk_cell BK278.out 2).trans rfl, (blk_cell BK279.out 0).trans rfl, (blk_cell BK279.out 1).trans rfl, (blk_cell BK279.out 2).trans rfl⟩ (fun hHeld => ?_)
                          clear hK K
                          refine norm_ (a' := ?_) ?_ ?_
                          rotate_left
                          · show Act.put _ (some 53) _ = _
                            simp only [Act.put, List.setIfInBounds_toArray, List.set_cons_zero, List.set_cons_succ, i64_w, i32_w]
                            rfl
                          refine two_ (i := 3) (j := 6) (Ni := some 54) (Nj := some 57) #[true, true, true, true, true, true, false, false, false, false] #[true, true, true, false, true, true, true, false, false, false] rfl rfl rfl rfl (two_of HT_.out (by kernel_rfl)) (by decide) (by decide) (fun K hK => ?_) (fun K hK => ?_)
                          · skip
                            refine Kd.R_append_rows_step k23 (w0 := w) w.heap.size (by rfl) (.tmp 51) (.tmp 53) 24 23 (.agg #[(.int .i64 0), (.int .i64 0), (.string ⟨#[]⟩)]) 32 rfl Tryd.underlying24 info23 rfl (by decide) (by omega) (.slice Ao22 x5_2.length co22) x5_2 y281 _ _ _ (fun k_ => some k_ ≠ (.slice Ao23 x6_2.length co23 : Value).ownBlock ∧ some k_ ≠ (.slice Ao29 y281.length co29 : Value).ownBlock ∧ k_ ≠ gb278 ∧ k_ ≠ gb279) (fun _ => False) rfl rfl ?aO ?aR (fun _ _ h => h) (fun _ h => h.elim) ?aF ?aB ?aS ?aL ?_
                            (case aR => repeat (first | exact (Kd.R_reads' HO283.out).2.2 | (with_reducible refine Kd.C_alloc ?_ _) | (with_reducible refine Kd.C_drewN ?_ _) | (with_reducible refine Kd.C_drew ?_)))
                            (case aB => exact (by repeat first | with_reducible exact HB.out | apply zS | refine below_set ?_ GE278.out | refine below_set ?_ GE279.out | exact HB.out))
                            (case aF => exact (fun k_ hk => ⟨Kd.fresh' (Kd.R_lt (by (with_reducible repeat (first | apply Kd.R_alloc | apply Kd.R_drewN | apply Kd.R_drew)); exact HO_6.out)) k_ hk, Kd.fresh' (Kd.R_lt (by (with_reducible repeat (first | apply Kd.R_alloc | apply Kd.R_drewN | apply Kd.R_drew)); exact HO283.out)) k_ hk, Kd.freshB (g := gb278) (o := .cells #[.int .i64 1, .int .i64 1, .string (⟨#[]⟩ : ByteArray)] 23 (0, 0)) (zB BK278.out) k_ hk, Kd.freshB (g := gb279) (o := .cells #[.int .i64 1, .int .i64 0, .string (⟨#[]⟩ : ByteArray)] 23 (0, 0)) (zB BK279.out) k_ hk⟩))
                            (case aO => exact (by (with_reducible repeat (first | apply Kd.R_alloc | apply Kd.R_drewN | apply Kd.R_drew)); exact Kd.R_mono HO_5.out (fun _ hk => ⟨hk.1.1, ⟨hk.2, ⟨hk.1.2.1, hk.1.2.2⟩⟩⟩)))
                            (case aS => exact (below_size (by repeat first | with_reducible exact HB.out | apply zS | refine below_set ?_ GE278.out | refine below_set ?_ GE279.out | exact HB.out)))
                            (case aL => have := LMc13.out; omega)
                            intro v285 w28 ho hb hg hat
                            rw [← Ny284.out] at ho
                            have n0_ := Aside0.mk (Kd.R_after (ok := (fun k_ => some k_ ≠ (.slice Ao29 y281.length co29 : Value).ownBlock ∧ k_ ≠ gb278 ∧ k_ ≠ gb279)) (by (with_reducible repeat (first | apply Kd.R_alloc | apply Kd.R_drewN | apply Kd.R_drew)); exact Kd.R_mono HO_6.out (fun _ hk => ⟨⟨hk.2, ⟨hk.1.2.1, hk.1.2.2⟩⟩, hk.1.1⟩)) hg hat)
                            have n1_ := Aside0.mk (blk_grown (g := gb278) (o := .cells #[.int .i64 1, .int .i64 1, .string (⟨#[]⟩ : ByteArray)] 23 (0, 0)) (zB BK278.out) hg (Kd.R_away HO_5.out (fun _ hk => hk.1.2.1)))
                            have n2_ := Aside0.mk (blk_grown (g := gb279) (o := .cells #[.int .i64 1, .int .i64 0, .string (⟨#[]⟩ : ByteArray)] 23 (0, 0)) (zB BK279.out) hg (Kd.R_away HO_5.out (fun _ hk => hk.1.2.2)))
                            have n3_ := Aside0.mk (Kd.R_after (ok := (fun k_ => some k_ ≠ (.slice Ao23 x6_2.length co23 : Value).ownBlock ∧ k_ ≠ gb278 ∧ k_ ≠ gb279)) (by (with_reducible repeat (first | apply Kd.R_alloc | apply Kd.R_drewN | apply Kd.R_drew)); exact Kd.R_mono HO283.out (fun _ hk => ⟨⟨hk.1.1.2, ⟨hk.1.2, hk.2⟩⟩, hk.1.1.1.2⟩)) hg hat)
                            have n4_ := Aside0.mk (hb)
                            have n5_ := Aside0.mk (ho)
                            clear HO_6
                            clear BK278
                            clear BK279
                            clear HO283
                            clear HB
                            clear HO_5
                            have HO_6 := n0_
                            have BK278 := n1_
                            have BK279 := n2_
                            have HO283 := n3_
                            have HB := n4_
                            have HO286 := n5_
                            clear n0_ n1_ n2_ n3_ n4_ n5_
                            clear ho hb hg hat
                            refine hK.out _ _ ⟨(blk_cell BK278.out 0).trans rfl, (blk_cell BK278.out 1).trans rfl, (blk_cell BK278.out 2).trans rfl, (blk_cell BK279.out 0).trans rfl, (blk_cell BK279.out 1).trans rfl, (blk_cell BK279.out 2).trans rfl⟩ (fun hHeld => ?_)
                            clear hK K
                            refine norm_ (a' := ?_) ?_ ?_
                            rotate_left
                            · show Act.put _ (some 54) _ = _
                              simp only [Act.put, List.setIfInBounds_toArray, List.set_cons_zero, List.set_cons_succ, i64_w, i32_w]
                              rfl
                            refine one_ (i := 6) (N := some 57) #[true, true, true, true, true, true, true, false, false, false] rfl rfl (one_of HT_.out (by kernel_rfl)) (by decide) (fun K hK => ?_)
                            refine Kd.R_lit_step k23 _ 23 ?hg (N := 57) ?hd (xs := ([(⟨1, 0, (⟨#[]⟩ : ByteArray)⟩ : S23)] : List (S23))) (inner := [.int .i64 1, .int .i64 0, .string (⟨#[]⟩ : ByteArray)]) (ok := fun _ => True) (okp := fun _ => True) ?hr ?hp (fun _ hk => hk) trivial (Below.refl _ _) (Nat.le_refl _) (by simp) ?_; (case hd => rfl); (case hg => rfl); (case hr => first | (go_simp; done) | (go_simp; rfl)); (case hp => exact (Reps.c3 (show Kd.M k23 _ _ _ (⟨1, 0, (⟨#[]⟩ : ByteArray)⟩ : S23) [.int .i64 1, .int .i64 0, .string (⟨#[]⟩ : ByteArray)] from (k23_mkM _ _ _ (⟨1, 0, (⟨#[]⟩ : ByteArray)⟩ : S23) )) (Reps.none _ _)))
                            intro v288 w30 ho31 hb hg_ hnew_
                            clear hg_ hnew_
                            (first | rw [← Ny287.out] at ho31 | (simp only [Int.reduceToNat] at ho31; rw [← Ny287.out] at ho31))
                            have n0_ := Aside0.mk (Kd.R_elder' (by (with_reducible repeat (first | apply Kd.R_alloc | apply Kd.R_drewN | apply Kd.R_drew)); exact HO_6.out) (Kd.R_base ho31) hb)
                            have n1_ := Aside0.mk (Kd.R_elder' (by (with_reducible repeat (first | apply Kd.R_alloc | apply Kd.R_drewN | apply Kd.R_drew)); exact HO283.out) (Kd.R_base ho31) hb)
                            have n2_ := Aside0.mk (Kd.R_elder' (by (with_reducible repeat (first | apply Kd.R_alloc | apply Kd.R_drewN | apply Kd.R_drew)); exact HO286.out) (Kd.R_base ho31) hb)
                            have n3_ := Aside0.mk (Kd.R_lower (Kd.R_newB (Kd.R_newB (Kd.R_new' (Kd.R_new' (Kd.R_new' ho31 (Kd.R_lt (by (with_reducible repeat (first | apply Kd.R_alloc | apply Kd.R_drewN | apply Kd.R_drew)); exact HO_6.out))) (Kd.R_lt (by (with_reducible repeat (first | apply Kd.R_alloc | apply Kd.R_drewN | apply Kd.R_drew)); exact HO283.out))) (Kd.R_lt (by (with_reducible repeat (first | apply Kd.R_alloc | apply Kd.R_drewN | apply Kd.R_drew)); exact HO286.out))) (g := gb278) (o := .cells #[.int .i64 1, .int .i64 1, .string (⟨#[]⟩ : ByteArray)] 23 (0, 0)) (zB BK278.out)) (g := gb279) (o := .cells #[.int .i64 1, .int .i64 0, .string (⟨#[]⟩ : ByteArray)] 23 (0, 0)) (zB BK279.out)) (below_size (by repeat first | with_reducible exact HB.out | apply zS | refine below_set ?_ GE278.out | refine below_set ?_ GE279.out | exact HB.out)))
                            have n4_ := Aside0.mk (blk_below (g := gb278) (o := .cells #[.int .i64 1, .int .i64 1, .string (⟨#[]⟩ : ByteArray)] 23 (0, 0)) (zB BK278.out) hb)
                            have n5_ := Aside0.mk (blk_below (g := gb279) (o := .cells #[.int .i64 1, .int .i64 0, .string (⟨#[]⟩ : ByteArray)] 23 (0, 0)) (zB BK279.out) hb)
                            have n6_ := Aside0.mk (below_step (by repeat first | with_reducible exact HB.out | apply zS | refine below_set ?_ GE278.out | refine below_set ?_ GE279.out | exact HB.out) hb)
                            clear HO_6
                            clear HO283
                            clear HO286
                            clear BK278
                            clear BK279
                            clear HB
                            have HO_6 := n0_
                            have HO283 := n1_
                            have HO286 := n2_
                            have HO289 := n3_
                            have BK278 := n4_
                            have BK279 := n5_
                            have HB := n6_
                            clear n0_ n1_ n2_ n3_ n4_ n5_ n6_
                            clear hb ho31
                            refine hK.out _ _ ⟨(blk_cell BK278.out 0).trans rfl, (blk_cell BK278.out 1).trans rfl, (blk_cell BK278.out 2).trans rfl, (blk_cell BK279.out 0).trans rfl, (blk_cell BK279.out 1).trans rfl, (blk_cell BK279.out 2).trans rfl⟩ (fun hHeld => ?_)
                            clear hK K
                            refine norm_ (a' := ?_) ?_ ?_
                            rotate_left
                            · show Act.put _ (some 57) _ = _
                              simp only [Act.put, List.setIfInBounds_toArray, List.set_cons_zero, List.set_cons_succ, i64_w, i32_w]
                              rfl
                            exact norm_ (by simp only [putAll, Act.put, List.setIfInBounds_toArray, List.set_cons_zero, List.set_cons_succ]) (hCont (.slice Ao29 y281.length co29, v285, v288) _ ⟨hHeld, (by (with_reducible repeat (first | apply Kd.R_alloc | apply Kd.R_drewN | apply Kd.R_drew)); exact Kd.R_mono HO283.out (fun _ hk => ⟨hk.1.2, ⟨hk.2, ⟨hk.1.1.1, ⟨hk.1.1.2.1, hk.1.1.2.2⟩⟩⟩⟩)), (by (with_reducible repeat (first | apply Kd.R_alloc | apply Kd.R_drewN | apply Kd.R_drew)); exact Kd.R_mono HO286.out (fun _ hk => ⟨hk.1.2.1, ⟨hk.2, ⟨hk.1.1, ⟨hk.1.2.2.1, hk.1.2.2.2⟩⟩⟩⟩)), (by (with_reducible repeat (first | apply Kd.R_alloc | apply Kd.R_drewN | apply Kd.R_drew)); exact Kd.R_mono HO289.out (fun _ hk => ⟨hk.1.1.1.2, ⟨hk.1.1.2, ⟨hk.1.1.1.1.2, ⟨hk.1.2, hk.2⟩⟩⟩⟩)), (by (with_reducible repeat (first | apply Kd.R_alloc | apply Kd.R_drewN | apply Kd.R_drew)); exact Kd.R_mono HO_6.out (fun _ hk => ⟨hk.1.1.1, ⟨hk.1.2, ⟨hk.2, ⟨hk.1.1.2.1, hk.1.1.2.2⟩⟩⟩⟩)), (zB BK278.out), (zB BK279.out), (by repeat first | with_reducible exact HB.out | apply zS | refine below_set ?_ GE278.out | refine below_set ?_ GE279.out | exact HB.out)⟩)
                          · skip
                            refine Kd.R_lit_step k23 _ 23 ?hg (N := 57) ?hd (xs := ([(⟨1, 0, (⟨#[]⟩ : ByteArray)⟩ : S23)] : List (S23))) (inner := [.int .i64 1, .int .i64 0, .string (⟨#[]⟩ : ByteArray)]) (ok := fun _ => True) (okp := fun _ => True) ?hr ?hp (fun _ hk => hk) trivial (Below.refl _ _) (Nat.le_refl _) (by simp) ?_; (case hd => rfl); (case hg => rfl); (case hr => first | (go_simp; done) | (go_simp; rfl)); (case hp => exact (Reps.c3 (show Kd.M k23 _ _ _ (⟨1, 0, (⟨#[]⟩ : ByteArray)⟩ : S23) [.int .i64 1, .int .i64 0, .string (⟨#[]⟩ : ByteArray)] from (k23_mkM _ _ _ (⟨1, 0, (⟨#[]⟩ : ByteArray)⟩ : S23) )) (Reps.none _ _)))
                            intro v288 w28 ho29 hb hg_ hnew_
                            clear hg_ hnew_
                            (first | rw [← Ny287.out] at ho29 | (simp only [Int.reduceToNat] at ho29; rw [← Ny287.out] at ho29))
                            have n0_ := Aside0.mk (Kd.R_elder' (by (with_reducible repeat (first | apply Kd.R_alloc | apply Kd.R_drewN | apply Kd.R_drew)); exact HO_5.out) (Kd.R_base ho29) hb)
                            have n1_ := Aside0.mk (Kd.R_elder' (by (with_reducible repeat (first | apply Kd.R_alloc | apply Kd.R_drewN | apply Kd.R_drew)); exact HO_6.out) (Kd.R_base ho29) hb)
                            have n2_ := Aside0.mk (Kd.R_elder' (by (with_reducible repeat (first | apply Kd.R_alloc | apply Kd.R_drewN | apply Kd.R_drew)); exact HO283.out) (Kd.R_base ho29) hb)
                            have n3_ := Aside0.mk (Kd.R_lower (Kd.R_newB (Kd.R_newB (Kd.R_new' (Kd.R_new' (Kd.R_new' ho29 (Kd.R_lt (by (with_reducible repeat (first | apply Kd.R_alloc | apply Kd.R_drewN | apply Kd.R_drew)); exact HO_5.out))) (Kd.R_lt (by (with_reducible repeat (first | apply Kd.R_alloc | apply Kd.R_drewN | apply Kd.R_drew)); exact HO_6.out))) (Kd.R_lt (by (with_reducible repeat (first | apply Kd.R_alloc | apply Kd.R_drewN | apply Kd.R_drew)); exact HO283.out))) (g := gb278) (o := .cells #[.int .i64 1, .int .i64 1, .string (⟨#[]⟩ : ByteArray)] 23 (0, 0)) (zB BK278.out)) (g := gb279) (o := .cells #[.int .i64 1, .int .i64 0, .string (⟨#[]⟩ : ByteArray)] 23 (0, 0)) (zB BK279.out)) (below_size (by repeat first | with_reducible exact HB.out | apply zS | refine below_set ?_ GE278.out | refine below_set ?_ GE279.out | exact HB.out)))
                            have n4_ := Aside0.mk (blk_below (g := gb278) (o := .cells #[.int .i64 1, .int .i64 1, .string (⟨#[]⟩ : ByteArray)] 23 (0, 0)) (zB BK278.out) hb)
                            have n5_ := Aside0.mk (blk_below (g := gb279) (o := .cells #[.int .i64 1, .int .i64 0, .string (⟨#[]⟩ : ByteArray)] 23 (0, 0)) (zB BK279.out) hb)
                            have n6_ := Aside0.mk (below_step (by repeat first | with_reducible exact HB.out | apply zS | refine below_set ?_ GE278.out | refine below_set ?_ GE279.out | exact HB.out) hb)
                            clear HO_5
                            clear HO_6
                            clear HO283
                            clear BK278
                            clear BK279
                            clear HB
                            have HO_5 := n0_
                            have HO_6 := n1_
                            have HO283 := n2_
                            have HO289 := n3_
                            have BK278 := n4_
                            have BK279 := n5_
                            have HB := n6_
                            clear n0_ n1_ n2_ n3_ n4_ n5_ n6_
                            clear hb ho29
                            obtain ⟨Ao31, co31, eo31⟩ := Kd.R_slice HO283.out
                            (first | subst eo31 | (injection eo31 with f1_ f2_ f3_; have f4_ := f1_.symm; have f5_ := f3_.symm; clear f1_ f2_ f3_; subst f4_; subst f5_))
                            refine hK.out _ _ ⟨(blk_cell BK278.out 0).trans rfl, (blk_cell BK278.out 1).trans rfl, (blk_cell BK278.out 2).trans rfl, (blk_cell BK279.out 0).trans rfl, (blk_cell BK279.out 1).trans rfl, (blk_cell BK279.out 2).trans rfl⟩ (fun hHeld => ?_)
                            clear hK K
                            refine norm_ (a' := ?_) ?_ ?_
                            rotate_left
                            · show Act.put _ (some 57) _ = _
                              simp only [Act.put, List.setIfInBounds_toArray, List.set_cons_zero, List.set_cons_succ, i64_w, i32_w]
                              rfl
                            refine one_ (i := 3) (N := some 54) #[true, true, true, true, true, true, true, false, false, false] rfl rfl (one_of HT_.out (by kernel_rfl)) (by decide) (fun K hK => ?_)
                            refine Kd.R_append_rows_step k23 (w0 := w) w.heap.size (by rfl) (.tmp 51) (.tmp 53) 24 23 (.agg #[(.int .i64 0), (.int .i64 0), (.string ⟨#[]⟩)]) 32 rfl Tryd.underlying24 info23 rfl (by decide) (by omega) (.slice Ao22 x5_2.length co22) x5_2 y281 _ _ _ (fun k_ => some k_ ≠ (.slice Ao23 x6_2.length co23 : Value).ownBlock ∧ some k_ ≠ (.slice Ao31 y281.length co31 : Value).ownBlock ∧ some k_ ≠ (v288 : Value).ownBlock ∧ k_ ≠ gb278 ∧ k_ ≠ gb279) (fun _ => False) rfl rfl ?aO ?aR (fun _ _ h => h) (fun _ h => h.elim) ?aF ?aB ?aS ?aL ?_
                            (case aR => repeat (first | exact (Kd.R_reads' HO283.out).2.2 | (with_reducible refine Kd.C_alloc ?_ _) | (with_reducible refine Kd.C_drewN ?_ _) | (with_reducible refine Kd.C_drew ?_)))
                            (case aB => exact (by repeat first | with_reducible exact HB.out | apply zS | refine below_set ?_ GE278.out | refine below_set ?_ GE279.out | exact HB.out))
                            (case aF => exact (fun k_ hk => ⟨Kd.fresh' (Kd.R_lt (by (with_reducible repeat (first | apply Kd.R_alloc | apply Kd.R_drewN | apply Kd.R_drew)); exact HO_6.out)) k_ hk, Kd.fresh' (Kd.R_lt (by (with_reducible repeat (first | apply Kd.R_alloc | apply Kd.R_drewN | apply Kd.R_drew)); exact HO283.out)) k_ hk, Kd.fresh' (Kd.R_lt (by (with_reducible repeat (first | apply Kd.R_alloc | apply Kd.R_drewN | apply Kd.R_drew)); exact HO289.out)) k_ hk, Kd.freshB (g := gb278) (o := .cells #[.int .i64 1, .int .i64 1, .string (⟨#[]⟩ : ByteArray)] 23 (0, 0)) (zB BK278.out) k_ hk, Kd.freshB (g := gb279) (o := .cells #[.int .i64 1, .int .i64 0, .string (⟨#[]⟩ : ByteArray)] 23 (0, 0)) (zB BK279.out) k_ hk⟩))
                            (case aO => exact (by (with_reducible repeat (first | apply Kd.R_alloc | apply Kd.R_drewN | apply Kd.R_drew)); exact Kd.R_mono HO_5.out (fun _ hk => ⟨hk.1.1.1, ⟨hk.1.2, ⟨hk.2, ⟨hk.1.1.2.1, hk.1.1.2.2⟩⟩⟩⟩)))
                            (case aS => exact (below_size (by repeat first | with_reducible exact HB.out | apply zS | refine below_set ?_ GE278.out | refine below_set ?_ GE279.out | exact HB.out)))
                            (case aL => have := LMc13.out; omega)
                            intro v285 w30 ho hb hg hat
                            rw [← Ny284.out] at ho
                            have n0_ := Aside0.mk (Kd.R_after (ok := (fun k_ => some k_ ≠ (.slice Ao31 y281.length co31 : Value).ownBlock ∧ some k_ ≠ (v288 : Value).ownBlock ∧ k_ ≠ gb278 ∧ k_ ≠ gb279)) (by (with_reducible repeat (first | apply Kd.R_alloc | apply Kd.R_drewN | apply Kd.R_drew)); exact Kd.R_mono HO_6.out (fun _ hk => ⟨⟨hk.1.2, ⟨hk.2, ⟨hk.1.1.2.1, hk.1.1.2.2⟩⟩⟩, hk.1.1.1⟩)) hg hat)
                            have n1_ := Aside0.mk (blk_grown (g := gb278) (o := .cells #[.int .i64 1, .int .i64 1, .string (⟨#[]⟩ : ByteArray)] 23 (0, 0)) (zB BK278.out) hg (Kd.R_away HO_5.out (fun _ hk => hk.1.1.2.1)))
                            have n2_ := Aside0.mk (blk_grown (g := gb279) (o := .cells #[.int .i64 1, .int .i64 0, .string (⟨#[]⟩ : ByteArray)] 23 (0, 0)) (zB BK279.out) hg (Kd.R_away HO_5.out (fun _ hk => hk.1.1.2.2)))
                            have n3_ := Aside0.mk (Kd.R_after (ok := (fun k_ => some k_ ≠ (.slice Ao23 x6_2.length co23 : Value).ownBlock ∧ some k_ ≠ (v288 : Value).ownBlock ∧ k_ ≠ gb278 ∧ k_ ≠ gb279)) (by (with_reducible repeat (first | apply Kd.R_alloc | apply Kd.R_drewN | apply Kd.R_drew)); exact Kd.R_mono HO283.out (fun _ hk => ⟨⟨hk.1.1.1.2, ⟨hk.2, ⟨hk.1.1.2, hk.1.2⟩⟩⟩, hk.1.1.1.1.2⟩)) hg hat)
                            have n4_ := Aside0.mk (Kd.R_after (ok := (fun k_ => some k_ ≠ (.slice Ao23 x6_2.length co23 : Value).ownBlock ∧ some k_ ≠ (.slice Ao31 y281.length co31 : Value).ownBlock ∧ k_ ≠ gb278 ∧ k_ ≠ gb279)) (by (with_reducible repeat (first | apply Kd.R_alloc | apply Kd.R_drewN | apply Kd.R_drew)); exact Kd.R_mono HO289.out (fun _ hk => ⟨⟨hk.1.1.1.2, ⟨hk.1.1.2, ⟨hk.1.2, hk.2⟩⟩⟩, hk.1.1.1.1.2⟩)) hg hat)
                            have n5_ := Aside0.mk (hb)
                            have n6_ := Aside0.mk (ho)
                            clear HO_6
                            clear BK278
                            clear BK279
                            clear HO283
                            clear HO289
                            clear HB
                            clear HO_5
                            have HO_6 := n0_
                            have BK278 := n1_
                            have BK279 := n2_
                            have HO283 := n3_
                            have HO289 := n4_
                            have HB := n5_
                            have HO286 := n6_
                            clear n0_ n1_ n2_ n3_ n4_ n5_ n6_
                            clear ho hb hg hat
                            refine hK.out _ _ ⟨(blk_cell BK278.out 0).trans rfl, (blk_cell BK278.out 1).trans rfl, (blk_cell BK278.out 2).trans rfl, (blk_cell BK279.out 0).trans rfl, (blk_cell BK279.out 1).trans rfl, (blk_cell BK279.out 2).trans rfl⟩ (fun hHeld => ?_)
                            clear hK K
                            refine norm_ (a' := ?_) ?_ ?_
                            rotate_left
                            · show Act.put _ (some 54) _ = _
                              simp only [Act.put, List.setIfInBounds_toArray, List.set_cons_zero, List.set_cons_succ, i64_w, i32_w]
                              rfl
                            exact norm_ (by simp only [putAll, Act.put, List.setIfInBounds_toArray, List.set_cons_zero, List.set_cons_succ]) (hCont (.slice Ao31 y281.length co31, v285, v288) _ ⟨hHeld, (by (with_reducible repeat (first | apply Kd.R_alloc | apply Kd.R_drewN | apply Kd.R_drew)); exact Kd.R_mono HO283.out (fun _ hk => ⟨hk.2, ⟨hk.1.2.1, ⟨hk.1.1, ⟨hk.1.2.2.1, hk.1.2.2.2⟩⟩⟩⟩)), (by (with_reducible repeat (first | apply Kd.R_alloc | apply Kd.R_drewN | apply Kd.R_drew)); exact Kd.R_mono HO286.out (fun _ hk => ⟨hk.2.1, ⟨hk.2.2.1, ⟨hk.1, ⟨hk.2.2.2.1, hk.2.2.2.2⟩⟩⟩⟩)), (by (with_reducible repeat (first | apply Kd.R_alloc | apply Kd.R_drewN | apply Kd.R_drew)); exact Kd.R_mono HO289.out (fun _ hk => ⟨hk.1.2.1, ⟨hk.2, ⟨hk.1.1, ⟨hk.1.2.2.1, hk.1.2.2.2⟩⟩⟩⟩)), (by (with_reducible repeat (first | apply Kd.R_alloc | apply Kd.R_drewN | apply Kd.R_drew)); exact Kd.R_mono HO_6.out (fun _ hk => ⟨hk.1.1, ⟨hk.2, ⟨hk.1.2.1, ⟨hk.1.2.2.1, hk.1.2.2.2⟩⟩⟩⟩)), (zB BK278.out), (zB BK279.out), (by repeat first | with_reducible exact HB.out | apply zS | refine below_set ?_ GE278.out | refine below_set ?_ GE279.out | exact HB.out)⟩)
                        · skip
                          refine Kd.R_lit_step k23 _ 23 ?hg (N := 57) ?hd (xs := ([(⟨1, 0, (⟨#[]⟩ : ByteArray)⟩ : S23)] : List (S23))) (inner := [.int .i64 1, .int .i64 0, .string (⟨#[]⟩ : ByteArray)]) (ok := fun _ => True) (okp := fun _ => True) ?hr ?hp (fun _ hk => hk) trivial (Below.refl _ _) (Nat.le_refl _) (by simp) ?_; (case hd => rfl); (case hg => rfl); (case hr => first | (go_simp; done) | (go_simp; rfl)); (case hp => exact (Reps.c3 (show Kd.M k23 _ _ _ (⟨1, 0, (⟨#[]⟩ : ByteArray)⟩ : S23) [.int .i64 1, .int .i64 0, .string (⟨#[]⟩ : ByteArray)] from (k23_mkM _ _ _ (⟨1, 0, (⟨#[]⟩ : ByteArray)⟩ : S23) )) (Reps.none _ _)))
                          intro v288 w26 ho27 hb hg_ hnew_
                          clear hg_ hnew_
                          (first | rw [← Ny287.out] at ho27 | (simp only [Int.reduceToNat] at ho27; rw [← Ny287.out] at ho27))
                          have n0_ := Aside0.mk (Kd.R_elder' (by (with_reducible repeat (first | apply Kd.R_alloc | apply Kd.R_drewN | apply Kd.R_drew)); exact HO_5.out) (Kd.R_base ho27) hb)
                          have n1_ := Aside0.mk (Kd.R_elder' (by (with_reducible repeat (first | apply Kd.R_alloc | apply Kd.R_drewN | apply Kd.R_drew)); exact HO_6.out) (Kd.R_base ho27) hb)
                          have n2_ := Aside0.mk (Kd.R_lower (Kd.R_newB (Kd.R_newB (Kd.R_new' (Kd.R_new' ho27 (Kd.R_lt (by (with_reducible repeat (first | apply Kd.R_alloc | apply Kd.R_drewN | apply Kd.R_drew)); exact HO_5.out))) (Kd.R_lt (by (with_reducible repeat (first | apply Kd.R_alloc | apply Kd.R_drewN | apply Kd.R_drew)); exact HO_6.out))) (g := gb278) (o := .cells #[.int .i64 1, .int .i64 1, .string (⟨#[]⟩ : ByteArray)] 23 (0, 0)) (zB BK278.out)) (g := gb279) (o := .cells #[.int .i64 1, .int .i64 0, .string (⟨#[]⟩ : ByteArray)] 23 (0, 0)) (zB BK279.out)) (below_size (by repeat first | with_reducible exact HB.out | apply zS | refine below_set ?_ GE278.out | refine below_set ?_ GE279.out | exact HB.out)))
                          have n3_ := Aside0.mk (blk_below (g := gb278) (o := .cells #[.int .i64 1, .int .i64 1, .string (⟨#[]⟩ : ByteArray)] 23 (0, 0)) (zB BK278.out) hb)
                          have n4_ := Aside0.mk (blk_below (g := gb279) (o := .cells #[.int .i64 1, .int .i64 0, .string (⟨#[]⟩ : ByteArray)] 23 (0, 0)) (zB BK279.out) hb)
                          have n5_ := Aside0.mk (below_step (by repeat first | with_reducible exact HB.out | apply zS | refine below_set ?_ GE278.out | refine below_set ?_ GE279.out | exact HB.out) hb)
                          clear HO_5
                          clear HO_6
                          clear BK278
                          clear BK279
                          clear HB
                          have HO_5 := n0_
                          have HO_6 := n1_
                          have HO289 := n2_
                          have BK278 := n3_
                          have BK279 := n4_
                          have HB := n5_
                          clear n0_ n1_ n2_ n3_ n4_ n5_
                          clear hb ho27
                          refine hK.out _ _ ⟨(blk_cell BK278.out 0).trans rfl, (blk_cell BK278.out 1).trans rfl, (blk_cell BK278.out 2).trans rfl, (blk_cell BK279.out 0).trans rfl, (blk_cell BK279.out 1).trans rfl, (blk_cell BK279.out 2).trans rfl⟩ (fun hHeld => ?_)
                          clear hK K
                          refine norm_ (a' := ?_) ?_ ?_
                          rotate_left
                          · show Act.put _ (some 57) _ = _
                            simp only [Act.put, List.setIfInBounds_toArray, List.set_cons_zero, List.set_cons_succ, i64_w, i32_w]
                            rfl
                          refine one_ (i := 2) (N := some 53) #[true, true, true, false, true, true, true, false, false, false] rfl rfl (one_of HT_.out (by kernel_rfl)) (by decide) (fun K hK => ?_)
                          refine Kd.R_lit_step k23 _ 23 ?hg (N := 53) ?hd (xs := ([(⟨1, 1, (⟨#[]⟩ : ByteArray)⟩ : S23)] : List (S23))) (inner := [.int .i64 1, .int .i64 1, .string (⟨#[]⟩ : ByteArray)]) (ok := fun _ => True) (okp := fun _ => True) ?hr ?hp (fun _ hk => hk) trivial (Below.refl _ _) (Nat.le_refl _) (by simp) ?_; (case hd => rfl); (case hg => rfl); (case hr => first | (go_simp; done) | (go_simp; rfl)); (case hp => exact (Reps.c3 (show Kd.M k23 _ _ _ (⟨1, 1, (⟨#[]⟩ : ByteArray)⟩ : S23) [.int .i64 1, .int .i64 1, .string (⟨#[]⟩ : ByteArray)] from (k23_mkM _ _ _ (⟨1, 1, (⟨#[]⟩ : ByteArray)⟩ : S23) )) (Reps.none _ _)))
                          intro v282 w28 ho29 hb hg_ hnew_
                          clear hg_ hnew_
                          (first | rw [← Ny281.out] at ho29 | (simp only [Int.reduceToNat] at ho29; rw [← Ny281.out] at ho29))
                          have n0_ := Aside0.mk (Kd.R_elder' (by (with_reducible repeat (first | apply Kd.R_alloc | apply Kd.R_drewN | apply Kd.R_drew)); exact HO_5.out) (Kd.R_base ho29) hb)
                          have n1_ := Aside0.mk (Kd.R_elder' (by (with_reducible repeat (first | apply Kd.R_alloc | apply Kd.R_drewN | apply Kd.R_drew)); exact HO_6.out) (Kd.R_base ho29) hb)
                          have n2_ := Aside0.mk (Kd.R_elder' (by (with_reducible repeat (first | apply Kd.R_alloc | apply Kd.R_drewN | apply Kd.R_drew)); exact HO289.out) (Kd.R_base ho29) hb)
                          have n3_ := Aside0.mk (Kd.R_lower (Kd.R_newB (Kd.R_newB (Kd.R_new' (Kd.R_new' (Kd.R_new' ho29 (Kd.R_lt (by (with_reducible repeat (first | apply Kd.R_alloc | apply Kd.R_drewN | apply Kd.R_drew)); exact HO_5.out))) (Kd.R_lt (by (with_reducible repeat (first | apply Kd.R_alloc | apply Kd.R_drewN | apply Kd.R_drew)); exact HO_6.out))) (Kd.R_lt (by (with_reducible repeat (first | apply Kd.R_alloc | apply Kd.R_drewN | apply Kd.R_drew)); exact HO289.out))) (g := gb278) (o := .cells #[.int .i64 1, .int .i64 1, .string (⟨#[]⟩ : ByteArray)] 23 (0, 0)) (zB BK278.out)) (g := gb279) (o := .cells #[.int .i64 1, .int .i64 0, .string (⟨#[]⟩ : ByteArray)] 23 (0, 0)) (zB BK279.out)) (below_size (by repeat first | with_reducible exact HB.out | apply zS | refine below_set ?_ GE278.out | refine below_set ?_ GE279.out | exact HB.out)))
                          have n4_ := Aside0.mk (blk_below (g := gb278) (o := .cells #[.int .i64 1, .int .i64 1, .string (⟨#[]⟩ : ByteArray)] 23 (0, 0)) (zB BK278.out) hb)
                          have n5_ := Aside0.mk (blk_below (g := gb279) (o := .cells #[.int .i64 1, .int .i64 0, .string (⟨#[]⟩ : ByteArray)] 23 (0, 0)) (zB BK279.out) hb)
                          have n6_ := Aside0.mk (below_step (by repeat first | with_reducible exact HB.out | apply zS | refine below_set ?_ GE278.out | refine below_set ?_ GE279.out | exact HB.out) hb)
                          clear HO_5
                          clear HO_6
                          clear HO289
                          clear BK278
                          clear BK279
                          clear HB
                          have HO_5 := n0_
                          have HO_6 := n1_
                          have HO289 := n2_
                          have HO283 := n3_
                          have BK278 := n4_
                          have BK279 := n5_
                          have HB := n6_
                          clear n0_ n1_ n2_ n3_ n4_ n5_ n6_
                          clear hb ho29
                          obtain ⟨Ao31, co31, eo31⟩ := Kd.R_slice HO283.out
                          (first | subst eo31 | (injection eo31 with f1_ f2_ f3_; have f4_ := f1_.symm; have f5_ := f3_.symm; clear f1_ f2_ f3_; subst f4_; subst f5_))
                          refine hK.out _ _ ⟨(blk_cell BK278.out 0).trans rfl, (blk_cell BK278.out 1).trans rfl, (blk_cell BK278.out 2).trans rfl, (blk_cell BK279.out 0).trans rfl, (blk_cell BK279.out 1).trans rfl, (blk_cell BK279.out 2).trans rfl⟩ (fun hHeld => ?_)
                          clear hK K
                          refine norm_ (a' := ?_) ?_ ?_
                          rotate_left
                          · show Act.put _ (some 53) _ = _
                            simp only [Act.put, List.setIfInBounds_toArray, List.set_cons_zero, List.set_cons_succ, i64_w, i32_w]
                            rfl
                          refine one_ (i := 3) (N := some 54) #[true, true, true, true, true, true, true, false, false, false] rfl rfl (one_of HT_.out (by kernel_rfl)) (by decide) (fun K hK => ?_)
                          refine Kd.R_append_rows_step k23 (w0 := w) w.heap.size (by rfl) (.tmp 51) (.tmp 53) 24 23 (.agg #[(.int .i64 0), (.int .i64 0), (.string ⟨#[]⟩)]) 32 rfl Tryd.underlying24 info23 rfl (by decide) (by omega) (.slice Ao22 x5_2.length co22) x5_2 y281 _ _ _ (fun k_ => some k_ ≠ (.slice Ao23 x6_2.length co23 : Value).ownBlock ∧ some k_ ≠ (v288 : Value).ownBlock ∧ some k_ ≠ (.slice Ao31 y281.length co31 : Value).ownBlock ∧ k_ ≠ gb278 ∧ k_ ≠ gb279) (fun _ => False) rfl rfl ?aO ?aR (fun _ _ h => h) (fun _ h => h.elim) ?aF ?aB ?aS ?aL ?_
                          (case aR => repeat (first | exact (Kd.R_reads' HO283.out).2.2 | (with_reducible refine Kd.C_alloc ?_ _) | (with_reducible refine Kd.C_drewN ?_ _) | (with_reducible refine Kd.C_drew ?_)))
                          (case aB => exact (by repeat first | with_reducible exact HB.out | apply zS | refine below_set ?_ GE278.out | refine below_set ?_ GE279.out | exact HB.out))
                          (case aF => exact (fun k_ hk => ⟨Kd.fresh' (Kd.R_lt (by (with_reducible repeat (first | apply Kd.R_alloc | apply Kd.R_drewN | apply Kd.R_drew)); exact HO_6.out)) k_ hk, Kd.fresh' (Kd.R_lt (by (with_reducible repeat (first | apply Kd.R_alloc | apply Kd.R_drewN | apply Kd.R_drew)); exact HO289.out)) k_ hk, Kd.fresh' (Kd.R_lt (by (with_reducible repeat (first | apply Kd.R_alloc | apply Kd.R_drewN | apply Kd.R_drew)); exact HO283.out)) k_ hk, Kd.freshB (g := gb278) (o := .cells #[.int .i64 1, .int .i64 1, .string (⟨#[]⟩ : ByteArray)] 23 (0, 0)) (zB BK278.out) k_ hk, Kd.freshB (g := gb279) (o := .cells #[.int .i64 1, .int .i64 0, .string (⟨#[]⟩ : ByteArray)] 23 (0, 0)) (zB BK279.out) k_ hk⟩))
                          (case aO => exact (by (with_reducible repeat (first | apply Kd.R_alloc | apply Kd.R_drewN | apply Kd.R_drew)); exact Kd.R_mono HO_5.out (fun _ hk => ⟨hk.1.1.1, ⟨hk.1.2, ⟨hk.2, ⟨hk.1.1.2.1, hk.1.1.2.2⟩⟩⟩⟩)))
                          (case aS => exact (below_size (by repeat first | with_reducible exact HB.out | apply zS | refine below_set ?_ GE278.out | refine below_set ?_ GE279.out | exact HB.out)))
                          (case aL => have := LMc13.out; omega)
                          intro v285 w30 ho hb hg hat
                          rw [← Ny284.out] at ho
                          have n0_ := Aside0.mk (Kd.R_after (ok := (fun k_ => some k_ ≠ (v288 : Value).ownBlock ∧ some k_ ≠ (.slice Ao31 y281.length co31 : Value).ownBlock ∧ k_ ≠ gb278 ∧ k_ ≠ gb279)) (by (with_reducible repeat (first | apply Kd.R_alloc | apply Kd.R_drewN | apply Kd.R_drew)); exact Kd.R_mono HO_6.out (fun _ hk => ⟨⟨hk.1.2, ⟨hk.2, ⟨hk.1.1.2.1, hk.1.1.2.2⟩⟩⟩, hk.1.1.1⟩)) hg hat)
                          have n1_ := Aside0.mk (blk_grown (g := gb278) (o := .cells #[.int .i64 1, .int .i64 1, .string (⟨#[]⟩ : ByteArray)] 23 (0, 0)) (zB BK278.out) hg (Kd.R_away HO_5.out (fun _ hk => hk.1.1.2.1)))
                          have n2_ := Aside0.mk (blk_grown (g := gb279) (o := .cells #[.int .i64 1, .int .i64 0, .string (⟨#[]⟩ : ByteArray)] 23 (0, 0)) (zB BK279.out) hg (Kd.R_away HO_5.out (fun _ hk => hk.1.1.2.2)))
                          have n3_ := Aside0.mk (Kd.R_after (ok := (fun k_ => some k_ ≠ (.slice Ao23 x6_2.length co23 : Value).ownBlock ∧ some k_ ≠ (.slice Ao31 y281.length co31 : Value).ownBlock ∧ k_ ≠ gb278 ∧ k_ ≠ gb279)) (by (with_reducible repeat (first | apply Kd.R_alloc | apply Kd.R_drewN | apply Kd.R_drew)); exact Kd.R_mono HO289.out (fun _ hk => ⟨⟨hk.1.1.1.2, ⟨hk.2, ⟨hk.1.1.2, hk.1.2⟩⟩⟩, hk.1.1.1.1.2⟩)) hg hat)
                          have n4_ := Aside0.mk (Kd.R_after (ok := (fun k_ => some k_ ≠ (.slice Ao23 x6_2.length co23 : Value).ownBlock ∧ some k_ ≠ (v288 : Value).ownBlock ∧ k_ ≠ gb278 ∧ k_ ≠ gb279)) (by (with_reducible repeat (first | apply Kd.R_alloc | apply Kd.R_drewN | apply Kd.R_drew)); exact Kd.R_mono HO283.out (fun _ hk => ⟨⟨hk.1.1.1.2, ⟨hk.1.1.2, ⟨hk.1.2, hk.2⟩⟩⟩, hk.1.1.1.1.2⟩)) hg hat)
                          have n5_ := Aside0.mk (hb)
                          have n6_ := Aside0.mk (ho)
                          clear HO_6
                          clear BK278
                          clear BK279
                          clear HO289
                          clear HO283
                          clear HB
                          clear HO_5
                          have HO_6 := n0_
                          have BK278 := n1_
                          have BK279 := n2_
                          have HO289 := n3_
                          have HO283 := n4_
                          have HB := n5_
                          have HO286 := n6_
                          clear n0_ n1_ n2_ n3_ n4_ n5_ n6_
                          clear ho hb hg hat
                          refine hK.out _ _ ⟨(blk_cell BK278.out 0).trans rfl, (blk_cell BK278.out 1).trans rfl, (blk_cell BK278.out 2).trans rfl, (blk_cell BK279.out 0).trans rfl, (blk_cell BK279.out 1).trans rfl, (blk_cell BK279.out 2).trans rfl⟩ (fun hHeld => ?_)
                          clear hK K
                          refine norm_ (a' := ?_) ?_ ?_
                          rotate_left
                          · show Act.put _ (some 54) _ = _
                            simp only [Act.put, List.setIfInBounds_toArray, List.set_cons_zero, List.set_cons_succ, i64_w, i32_w]
                            rfl
                          exact norm_ (by simp only [putAll, Act.put, List.setIfInBounds_toArray, List.set_cons_zero, List.set_cons_succ]) (hCont (.slice Ao31 y281.length co31, v285, v288) _ ⟨hHeld, (by (with_reducible repeat (first | apply Kd.R_alloc | apply Kd.R_drewN | apply Kd.R_drew)); exact Kd.R_mono HO283.out (fun _ hk => ⟨hk.2, ⟨hk.1.2.1, ⟨hk.1.1, ⟨hk.1.2.2.1, hk.1.2.2.2⟩⟩⟩⟩)), (by (with_reducible repeat (first | apply Kd.R_alloc | apply Kd.R_drewN | apply Kd.R_drew)); exact Kd.R_mono HO286.out (fun _ hk => ⟨hk.2.2.1, ⟨hk.2.1, ⟨hk.1, ⟨hk.2.2.2.1, hk.2.2.2.2⟩⟩⟩⟩)), (by (with_reducible repeat (first | apply Kd.R_alloc | apply Kd.R_drewN | apply Kd.R_drew)); exact Kd.R_mono HO289.out (fun _ hk => ⟨hk.1.2.1, ⟨hk.2, ⟨hk.1.1, ⟨hk.1.2.2.1, hk.1.2.2.2⟩⟩⟩⟩)), (by (with_reducible repeat (first | apply Kd.R_alloc | apply Kd.R_drewN | apply Kd.R_drew)); exact Kd.R_mono HO_6.out (fun _ hk => ⟨hk.1.2.1, ⟨hk.2, ⟨hk.1.1, ⟨hk.1.2.2.1, hk.1.2.2.2⟩⟩⟩⟩)), (zB BK278.out), (zB BK279.out), (by repeat first | with_reducible exact HB.out | apply zS | refine below_set ?_ GE278.out | refine below_set ?_ GE279.out | exact HB.out)⟩)
                      rintro ⟨v282, v285, v288⟩ w32 ⟨hS_, h0_, h1_, h2_, h3_, h4_, h5_, h6_⟩
                      have n0_ : Aside0 (Kd.R k23 23 w32 w.heap.size (fun k_ => some k_ ≠ (v285 : Value).ownBlock ∧ some k_ ≠ (v288 : Value).ownBlock ∧ some k_ ≠ (.slice Ao23 x6_2.length co23 : Value).ownBlock ∧ k_ ≠ gb278 ∧ k_ ≠ gb279) v282 y281) := ⟨h0_⟩
                      have n1_ : Aside0 (Kd.R k23 23 w32 w.heap.size (fun k_ => some k_ ≠ (v282 : Value).ownBlock ∧ some k_ ≠ (v288 : Value).ownBlock ∧ some k_ ≠ (.slice Ao23 x6_2.length co23 : Value).ownBlock ∧ k_ ≠ gb278 ∧ k_ ≠ gb279) v285 y284) := ⟨h1_⟩
                      have n2_ : Aside0 (Kd.R k23 23 w32 w.heap.size (fun k_ => some k_ ≠ (v282 : Value).ownBlock ∧ some k_ ≠ (v285 : Value).ownBlock ∧ some k_ ≠ (.slice Ao23 x6_2.length co23 : Value).ownBlock ∧ k_ ≠ gb278 ∧ k_ ≠ gb279) v288 y287) := ⟨h2_⟩
                      have n3_ : Aside0 (Kd.R k23 23 w32 w.heap.size (fun k_ => some k_ ≠ (v282 : Value).ownBlock ∧ some k_ ≠ (v285 : Value).ownBlock ∧ some k_ ≠ (v288 : Value).ownBlock ∧ k_ ≠ gb278 ∧ k_ ≠ gb279) (.slice Ao23 x6_2.length co23) x6_2) := ⟨h3_⟩
                      have n4_ : Aside0 (w32.heap[gb278]? = some (.cells #[.int .i64 1, .int .i64 1, .string (⟨#[]⟩ : ByteArray)] 23 (0, 0))) := ⟨h4_⟩
                      have n5_ : Aside0 (w32.heap[gb279]? = some (.cells #[.int .i64 1, .int .i64 0, .string (⟨#[]⟩ : ByteArray)] 23 (0, 0))) := ⟨h5_⟩
                      have n6_ : Aside0 (Below w.heap.size w w32) := ⟨h6_⟩
                      clear HO_5
                      clear HO_6
                      clear BK278
                      clear BK279
                      clear HB
                      clear h0_ h1_ h2_ h3_ h4_ h5_ h6_
                      have HO283 := n0_
                      have HO286 := n1_
                      have HO289 := n2_
                      have HO_6 := n3_
                      have BK278 := n4_
                      have BK279 := n5_
                      have HB := n6_
                      clear n0_ n1_ n2_ n3_ n4_ n5_ n6_
                      have hHeld : w32.cell? ⟨gb278, 0, none⟩ = some (.int .i64 1) ∧ w32.cell? ⟨gb278, 1, none⟩ = some (.int .i64 1) ∧ w32.cell? ⟨gb278, 2, none⟩ = some (.string (⟨#[]⟩ : ByteArray)) ∧ w32.cell? ⟨gb279, 0, none⟩ = some (.int .i64 1) ∧ w32.cell? ⟨gb279, 1, none⟩ = some (.int .i64 0) ∧ w32.cell? ⟨gb279, 2, none⟩ = some (.string (⟨#[]⟩ : ByteArray)) := hS_
                      obtain ⟨Ao34, co34, eo34⟩ := Kd.R_slice HO289.out
                      (first | subst eo34 | (injection eo34 with f1_ f2_ f3_; have f4_ := f1_.symm; have f5_ := f3_.symm; clear f1_ f2_ f3_; subst f4_; subst f5_))
                      refine norm_ (a' := ?_) ?_ ?_
                      rotate_left
                      · simp only [putAll, Act.put, List.setIfInBounds_toArray, List.set_cons_zero, List.set_cons_succ]
                        rfl
                      refine one_ (i := 7) (N := some 58) #[true, true, true, true, true, true, true, true, false, false] rfl rfl (one_of HT_.out (by kernel_rfl)) (by decide) (fun K hK => ?_)
                      refine Kd.R_append_rows_step k23 (w0 := w) w.heap.size (by rfl) (.tmp 55) (.tmp 57) 24 23 (.agg #[(.int .i64 0), (.int .i64 0), (.string ⟨#[]⟩)]) 32 rfl Tryd.underlying24 info23 rfl (by decide) (by omega) (.slice Ao23 x6_2.length co23) x6_2 y287 _ _ _ (fun k_ => some k_ ≠ (v282 : Value).ownBlock ∧ some k_ ≠ (v285 : Value).ownBlock ∧ some k_ ≠ (.slice Ao34 y287.length co34 : Value).ownBlock ∧ k_ ≠ gb278 ∧ k_ ≠ gb279) (fun _ => False) rfl rfl ?aO ?aR (fun _ _ h => h) (fun _ h => h.elim) ?aF ?aB ?aS ?aL ?_
                      (case aR => repeat (first | exact (Kd.R_reads' HO289.out).2.2 | (with_reducible refine Kd.C_alloc ?_ _) | (with_reducible refine Kd.C_drewN ?_ _) | (with_reducible refine Kd.C_drew ?_)))
                      (case aB => exact (by repeat first | with_reducible exact HB.out | apply zS | refine below_set ?_ GE278.out | refine below_set ?_ GE279.out | exact HB.out))
                      (case aF => exact (fun k_ hk => ⟨Kd.fresh' (Kd.R_lt (by (with_reducible repeat (first | apply Kd.R_alloc | apply Kd.R_drewN | apply Kd.R_drew)); exact HO283.out)) k_ hk, Kd.fresh' (Kd.R_lt (by (with_reducible repeat (first | apply Kd.R_alloc | apply Kd.R_drewN | apply Kd.R_drew)); exact HO286.out)) k_ hk, Kd.fresh' (Kd.R_lt (by (with_reducible repeat (first | apply Kd.R_alloc | apply Kd.R_drewN | apply Kd.R_drew)); exact HO289.out)) k_ hk, Kd.freshB (g := gb278) (o := .cells #[.int .i64 1, .int .i64 1, .string (⟨#[]⟩ : ByteArray)] 23 (0, 0)) (zB BK278.out) k_ hk, Kd.freshB (g := gb279) (o := .cells #[.int .i64 1, .int .i64 0, .string (⟨#[]⟩ : ByteArray)] 23 (0, 0)) (zB BK279.out) k_ hk⟩))
                      (case aO => exact (by (with_reducible repeat (first | apply Kd.R_alloc | apply Kd.R_drewN | apply Kd.R_drew)); exact HO_6.out))
                      (case aS => exact (below_size (by repeat first | with_reducible exact HB.out | apply zS | refine below_set ?_ GE278.out | refine below_set ?_ GE279.out | exact HB.out)))
                      (case aL => have := LMc14.out; omega)
                      intro v291 w33 ho hb hg hat
                      rw [← Ny290.out] at ho
                      have n0_ := Aside0.mk (blk_grown (g := gb278) (o := .cells #[.int .i64 1, .int .i64 1, .string (⟨#[]⟩ : ByteArray)] 23 (0, 0)) (zB BK278.out) hg (Kd.R_away HO_6.out (fun _ hk => hk.2.2.2.1)))
                      have n1_ := Aside0.mk (blk_grown (g := gb279) (o := .cells #[.int .i64 1, .int .i64 0, .string (⟨#[]⟩ : ByteArray)] 23 (0, 0)) (zB BK279.out) hg (Kd.R_away HO_6.out (fun _ hk => hk.2.2.2.2)))
                      have n2_ := Aside0.mk (Kd.R_after (ok := (fun k_ => some k_ ≠ (v285 : Value).ownBlock ∧ some k_ ≠ (.slice Ao34 y287.length co34 : Value).ownBlock ∧ k_ ≠ gb278 ∧ k_ ≠ gb279)) (by (with_reducible repeat (first | apply Kd.R_alloc | apply Kd.R_drewN | apply Kd.R_drew)); exact Kd.R_mono HO283.out (fun _ hk => ⟨⟨hk.1, ⟨hk.2.1, ⟨hk.2.2.2.1, hk.2.2.2.2⟩⟩⟩, hk.2.2.1⟩)) hg hat)
                      have n3_ := Aside0.mk (Kd.R_after (ok := (fun k_ => some k_ ≠ (v282 : Value).ownBlock ∧ some k_ ≠ (.slice Ao34 y287.length co34 : Value).ownBlock ∧ k_ ≠ gb278 ∧ k_ ≠ gb279)) (by (with_reducible repeat (first | apply Kd.R_alloc | apply Kd.R_drewN | apply Kd.R_drew)); exact Kd.R_mono HO286.out (fun _ hk => ⟨⟨hk.1, ⟨hk.2.1, ⟨hk.2.2.2.1, hk.2.2.2.2⟩⟩⟩, hk.2.2.1⟩)) hg hat)
                      have n4_ := Aside0.mk (Kd.R_after (ok := (fun k_ => some k_ ≠ (v282 : Value).ownBlock ∧ some k_ ≠ (v285 : Value).ownBlock ∧ k_ ≠ gb278 ∧ k_ ≠ gb279)) (by (with_reducible repeat (first | apply Kd.R_alloc | apply Kd.R_drewN | apply Kd.R_drew)); exact Kd.R_mono HO289.out (fun _ hk => ⟨⟨hk.1, ⟨hk.2.1, ⟨hk.2.2.2.1, hk.2.2.2.2⟩⟩⟩, hk.2.2.1⟩)) hg hat)
                      have n5_ := Aside0.mk (hb)
                      have n6_ := Aside0.mk (ho)
                      clear BK278
                      clear BK279
                      clear HO283
                      clear HO286
                      clear HO289
                      clear HB
                      clear HO_6
                      have BK278 := n0_
                      have BK279 := n1_
                      have HO283 := n2_
                      have HO286 := n3_
                      have HO289 := n4_
                      have HB := n5_
                      have HO292 := n6_
                      clear n0_ n1_ n2_ n3_ n4_ n5_ n6_
                      clear ho hb hg hat
                      refine hK.out _ _ ⟨(blk_cell BK278.out 0).trans rfl, (blk_cell BK278.out 1).trans rfl, (blk_cell BK278.out 2).trans rfl, (blk_cell BK279.out 0).trans rfl, (blk_cell BK279.out 1).trans rfl, (blk_cell BK279.out 2).trans rfl⟩ (fun hHeld => ?_)
                      clear hK K
                      refine norm_ (a' := ?_) ?_ ?_
                      rotate_left
                      · show Act.put _ (some 58) _ = _
                        simp only [Act.put, List.setIfInBounds_toArray, List.set_cons_zero, List.set_cons_succ, i64_w, i32_w]
                        rfl
                      refine pure_ (i := 8) (N := some 5) (v := ?_) (a' := ?_) #[true, true, true, true, true, true, true, true, true, false] rfl rfl (any_of HT_.out (by kernel_rfl)) (fun _ _ _ h => h) (Or.inl ⟨by rfl, ?_⟩) ?_ ?_
                      rotate_left
                      · intro w'
                        go_simp
                        with_reducible rfl
                      rotate_left
                      · simp only [Act.put, List.setIfInBounds_toArray, List.set_cons_zero, List.set_cons_succ, i64_w, i32_w]
                        rfl
                      refine pure_ (i := 9) (N := some 6) (v := ?_) (a' := ?_) #[true, true, true, true, true, true, true, true, true, true] rfl rfl (any_of HT_.out (by kernel_rfl)) (fun _ _ _ h => h) (Or.inl ⟨by rfl, ?_⟩) ?_ ?_
                      rotate_left
                      · intro w'
                        go_simp
                        with_reducible rfl
                      rotate_left
                      · simp only [Act.put, List.setIfInBounds_toArray, List.set_cons_zero, List.set_cons_succ, i64_w, i32_w]
                        rfl
                      refine done_ (done_of HT_.out (by kernel_rfl)) ?_
                      try go_wp2
                      have n0_ := Aside0.mk (Kd.R_drew HO283.out)
                      have n1_ := Aside0.mk (Kd.R_drew HO286.out)
                      have n2_ := Aside0.mk (Kd.R_drew HO289.out)
                      have n3_ := Aside0.mk (Kd.R_drew HO292.out)
                      have n4_ := Aside0.mk (blk_drew BK278.out)
                      have n5_ := Aside0.mk (blk_drew BK279.out)
                      have n6_ := Aside0.mk (below_drew1 HB.out)
                      clear HO283
                      clear HO286
                      clear HO289
                      clear HO292
                      clear BK278
                      clear BK279
                      clear HB
                      have HO283 := n0_
                      have HO286 := n1_
                      have HO289 := n2_
                      have HO292 := n3_
                      have BK278 := n4_
                      have BK279 := n5_
                      have HB := n6_
                      clear n0_ n1_ n2_ n3_ n4_ n5_ n6_
                      have p293 : 0 ≤ (x10_2 : Int) := of_decide_eq_true (by first | (with_reducible assumption) | assumption)
                      have q293 : x10_2 < (l0.length : Int) := of_decide_eq_true (by first | (with_reducible assumption) | assumption)
                      obtain ⟨ad293, e293, hx293_0⟩ := Kd.at_bool HR0.out x10_2 p293 q293
                      have hw293_0 := hx293_0
                      (try rw [← Nbq11.out] at hx293_0)
                      obtain rfl : ad280 = ad293 := (by injection e293)
                      replace hx293_0 := (HB.out.cell (World.block_lt_of_cell? w _ hx293_0)).trans hx293_0
                      replace p293 := eq_true p293
                      replace q293 := eq_true q293
                      refine start_ (n := 16) (S := fun w' => w'.cell? (ad280.add (x10_2).toNat) = some (.bool (true))) (ds := []) #[false, false, false, false, false, false, false, false, false, false, false, false, false, false, false, false] (by kernel_rfl) rfl rfl hx293_0 (fun hHeld => ?_); refine with_tabW pannierlaw10_FoldTruths.tab12 pannierlaw10_FoldTruths.bits12 (fun HT_ HW_ => ?_)
                      generalize w33.drew = w35 at HO283 HO286 HO289 HO292 BK278 BK279 HB hx293_0 hHeld ⊢
                      cases x8_2 <;> cases x9_2
                      all_goals
                        (refine pure_ (i := 0) (N := some 59) (v := ?_) (a' := ?_) #[true, false, false, false, false, false, false, false, false, false, false, false, false, false, false, false] rfl rfl (any_of HT_.out (by kernel_rfl)) (fun _ _ _ h => h) (Or.inl ⟨by rfl, ?_⟩) ?_ ?_; rotate_left; (focus (intro w'; go_simp; with_reducible rfl)); rotate_left; (focus (simp only [Act.put, List.setIfInBounds_toArray, List.set_cons_zero, List.set_cons_succ, i64_w, i32_w]; rfl)))
                        (refine pure_ (i := 1) (N := some 60) (v := ?_) (a' := ?_) #[true, true, false, false, false, false, false, false, false, false, false, false, false, false, false, false] rfl rfl (any_of HT_.out (by kernel_rfl)) (fun _ _ _ h => h) (Or.inl ⟨by rfl, ?_⟩) ?_ ?_; rotate_left; (focus (intro w'; go_simp; with_reducible rfl)); rotate_left; (focus (simp only [Act.put, List.setIfInBounds_toArray, List.set_cons_zero, List.set_cons_succ, i64_w, i32_w]; rfl)))
                        first | (refine pure_ (i := 2) (N := some 61) (v := undef) (a' := ?_) #[true, true, true, false, false, false, false, false, false, false, false, false, false, false, false, false] rfl rfl (any_of HT_.out (by kernel_rfl)) (fun _ _ _ h => h) (Or.inr ⟨by rfl, rfl⟩) ?_ ?_; rotate_left; (focus (simp only [Act.put, List.setIfInBounds_toArray, List.set_cons_zero, List.set_cons_succ, i64_w, i32_w]; rfl))) | (refine pure_ (i := 2) (N := some 61) (v := ?_) (a' := ?_) #[true, true, true, false, false, false, false, false, false, false, false, false, false, false, false, false] rfl rfl (any_of HT_.out (by kernel_rfl)) (fun _ _ _ h => h) (Or.inl ⟨by rfl, ?_⟩) ?_ ?_; rotate_left; (focus (intro w'; go_simp; with_reducible rfl)); rotate_left; (focus (simp only [Act.put, List.setIfInBounds_toArray, List.set_cons_zero, List.set_cons_succ, i64_w, i32_w]; rfl)))
                        first | (refine pure_ (i := 3) (N := some 62) (v := undef) (a' := ?_) #[true, true, true, true, false, false, false, false, false, false, false, false, false, false, false, false] rfl rfl (any_of HT_.out (by kernel_rfl)) (fun _ _ _ h => h) (Or.inr ⟨by rfl, rfl⟩) ?_ ?_; rotate_left; (focus (simp only [Act.put, List.setIfInBounds_toArray, List.set_cons_zero, List.set_cons_succ, i64_w, i32_w]; rfl))) | (refine pure_ (i := 3) (N := some 62) (v := ?_) (a' := ?_) #[true, true, true, true, false, false, false, false, false, false, false, false, false, false, false, false] rfl rfl (any_of HT_.out (by kernel_rfl)) (fun _ _ _ h => h) (Or.inl ⟨by rfl, ?_⟩) ?_ ?_; rotate_left; (focus (intro w'; go_simp; with_reducible rfl)); rotate_left; (focus (simp only [Act.put, List.setIfInBounds_toArray, List.set_cons_zero, List.set_cons_succ, i64_w, i32_w]; rfl)))
                        first | (refine pure_ (i := 4) (N := some 63) (v := undef) (a' := ?_) #[true, true, true, true, true, false, false, false, false, false, false, false, false, false, false, false] rfl rfl (any_of HT_.out (by kernel_rfl)) (fun _ _ _ h => h) (Or.inr ⟨by rfl, rfl⟩) ?_ ?_; rotate_left; (focus (simp only [Act.put, List.setIfInBounds_toArray, List.set_cons_zero, List.set_cons_succ, i64_w, i32_w]; rfl))) | (refine pure_ (i := 4) (N := some 63) (v := ?_) (a' := ?_) #[true, true, true, true, true, false, false, false, false, false, false, false, false, false, false, false] rfl rfl (any_of HT_.out (by kernel_rfl)) (fun _ _ _ h => h) (Or.inl ⟨by rfl, ?_⟩) ?_ ?_; rotate_left; (focus (intro w'; go_simp; with_reducible rfl)); rotate_left; (focus (simp only [Act.put, List.setIfInBounds_toArray, List.set_cons_zero, List.set_cons_succ, i64_w, i32_w]; rfl)))
                        first | (refine pure_ (i := 5) (N := some 64) (v := undef) (a' := ?_) #[true, true, true, true, true, true, false, false, false, false, false, false, false, false, false, false] rfl rfl (any_of HT_.out (by kernel_rfl)) (fun _ _ _ h => h) (Or.inr ⟨by rfl, rfl⟩) ?_ ?_; rotate_left; (focus (simp only [Act.put, List.setIfInBounds_toArray, List.set_cons_zero, List.set_cons_succ, i64_w, i32_w]; rfl))) | (refine take_ (i := 5) (N := some 64) (v := ?_) (a' := ?_) #[true, true, true, true, true, true, false, false, false, false, false, false, false, false, false, false] rfl rfl (take_ofW HT_.out HW_.out (by kernel_rfl)) (fun _ _ _ h => h) (Or.inl ⟨by rfl, ?_⟩) hHeld ?_ ?_; rotate_left; (focus (intro w' s0; go_simp; with_reducible rfl)); rotate_left; (focus (simp only [Act.put, List.setIfInBounds_toArray, List.set_cons_zero, List.set_cons_succ, i64_w, i32_w]; rfl)))
                        (refine pure_ (i := 6) (N := some 65) (v := ?_) (a' := ?_) #[true, true, true, true, true, true, true, false, false, false, false, false, false, false, false, false] rfl rfl (any_of HT_.out (by kernel_rfl)) (fun _ _ _ h => h) (Or.inl ⟨by rfl, ?_⟩) ?_ ?_; rotate_left; (focus (intro w'; go_simp; with_reducible rfl)); rotate_left; (focus (simp only [Act.put, List.setIfInBounds_toArray, List.set_cons_zero, List.set_cons_succ, i64_w, i32_w]; rfl)))
                        (refine pure_ (i := 7) (N := some 66) (v := ?_) (a' := ?_) #[true, true, true, true, true, true, true, true, false, false, false, false, false, false, false, false] rfl rfl (any_of HT_.out (by kernel_rfl)) (fun _ _ _ h => h) (Or.inl ⟨by rfl, ?_⟩) ?_ ?_; rotate_left; (focus (intro w'; go_simp; with_reducible rfl)); rotate_left; (focus (simp only [Act.put, List.setIfInBounds_toArray, List.set_cons_zero, List.set_cons_succ, i64_w, i32_w]; rfl)))
                        (refine pure_ (i := 8) (N := some 67) (v := ?_) (a' := ?_) #[true, true, true, true, true, true, true, true, true, false, false, false, false, false, false, false] rfl rfl (any_of HT_.out (by kernel_rfl)) (fun _ _ _ h => h) (Or.inl ⟨by rfl, ?_⟩) ?_ ?_; rotate_left; (focus (intro w'; go_simp; with_reducible rfl)); rotate_left; (focus (simp only [Act.put, List.setIfInBounds_toArray, List.set_cons_zero, List.set_cons_succ, i64_w, i32_w]; rfl)))
                        first | (refine pure_ (i := 9) (N := some 68) (v := undef) (a' := ?_) #[true, true, true, true, true, true, true, true, true, true, false, false, false, false, false, false] rfl rfl (any_of HT_.out (by kernel_rfl)) (fun _ _ _ h => h) (Or.inr ⟨by rfl, rfl⟩) ?_ ?_; rotate_left; (focus (simp only [Act.put, List.setIfInBounds_toArray, List.set_cons_zero, List.set_cons_succ, i64_w, i32_w]; rfl))) | (refine pure_ (i := 9) (N := some 68) (v := ?_) (a' := ?_) #[true, true, true, true, true, true, true, true, true, true, false, false, false, false, false, false] rfl rfl (any_of HT_.out (by kernel_rfl)) (fun _ _ _ h => h) (Or.inl ⟨by rfl, ?_⟩) ?_ ?_; rotate_left; (focus (intro w'; go_simp; with_reducible rfl)); rotate_left; (focus (simp only [Act.put, List.setIfInBounds_toArray, List.set_cons_zero, List.set_cons_succ, i64_w, i32_w]; rfl)))
                        first | (refine pure_ (i := 10) (N := some 69) (v := undef) (a' := ?_) #[true, true, true, true, true, true, true, true, true, true, true, false, false, false, false, false] rfl rfl (any_of HT_.out (by kernel_rfl)) (fun _ _ _ h => h) (Or.inr ⟨by rfl, rfl⟩) ?_ ?_; rotate_left; (focus (simp only [Act.put, List.setIfInBounds_toArray, List.set_cons_zero, List.set_cons_succ, i64_w, i32_w]; rfl))) | (refine pure_ (i := 10) (N := some 69) (v := ?_) (a' := ?_) #[true, true, true, true, true, true, true, true, true, true, true, false, false, false, false, false] rfl rfl (any_of HT_.out (by kernel_rfl)) (fun _ _ _ h => h) (Or.inl ⟨by rfl, ?_⟩) ?_ ?_; rotate_left; (focus (intro w'; go_simp; with_reducible rfl)); rotate_left; (focus (simp only [Act.put, List.setIfInBounds_toArray, List.set_cons_zero, List.set_cons_succ, i64_w, i32_w]; rfl)))
                        first | (refine pure_ (i := 11) (N := some 70) (v := undef) (a' := ?_) #[true, true, true, true, true, true, true, true, true, true, true, true, false, false, false, false] rfl rfl (any_of HT_.out (by kernel_rfl)) (fun _ _ _ h => h) (Or.inr ⟨by rfl, rfl⟩) ?_ ?_; rotate_left; (focus (simp only [Act.put, List.setIfInBounds_toArray, List.set_cons_zero, List.set_cons_succ, i64_w, i32_w]; rfl))) | (refine pure_ (i := 11) (N := some 70) (v := ?_) (a' := ?_) #[true, true, true, true, true, true, true, true, true, true, true, true, false, false, false, false] rfl rfl (any_of HT_.out (by kernel_rfl)) (fun _ _ _ h => h) (Or.inl ⟨by rfl, ?_⟩) ?_ ?_; rotate_left; (focus (intro w'; go_simp; with_reducible rfl)); rotate_left; (focus (simp only [Act.put, List.setIfInBounds_toArray, List.set_cons_zero, List.set_cons_succ, i64_w, i32_w]; rfl)))
                        first | (refine pure_ (i := 12) (N := some 71) (v := undef) (a' := ?_) #[true, true, true, true, true, true, true, true, true, true, true, true, true, false, false, false] rfl rfl (any_of HT_.out (by kernel_rfl)) (fun _ _ _ h => h) (Or.inr ⟨by rfl, rfl⟩) ?_ ?_; rotate_left; (focus (simp only [Act.put, List.setIfInBounds_toArray, List.set_cons_zero, List.set_cons_succ, i64_w, i32_w]; rfl))) | (refine take_ (i := 12) (N := some 71) (v := ?_) (a' := ?_) #[true, true, true, true, true, true, true, true, true, true, true, true, true, false, false, false] rfl rfl (take_ofW HT_.out HW_.out (by kernel_rfl)) (fun _ _ _ h => h) (Or.inl ⟨by rfl, ?_⟩) hHeld ?_ ?_; rotate_left; (focus (intro w' s0; go_simp; with_reducible rfl)); rotate_left; (focus (simp only [Act.put, List.setIfInBounds_toArray, List.set_cons_zero, List.set_cons_succ, i64_w, i32_w]; rfl)))
                        (refine pure_ (i := 13) (N := some 72) (v := ?_) (a' := ?_) #[true, true, true, true, true, true, true, true, true, true, true, true, true, true, false, false] rfl rfl (any_of HT_.out (by kernel_rfl)) (fun _ _ _ h => h) (Or.inl ⟨by rfl, ?_⟩) ?_ ?_; rotate_left; (focus (intro w'; go_simp; with_reducible rfl)); rotate_left; (focus (simp only [Act.put, List.setIfInBounds_toArray, List.set_cons_zero, List.set_cons_succ, i64_w, i32_w]; rfl)))
                        (refine pure_ (i := 14) (N := some 8) (v := ?_) (a' := ?_) #[true, true, true, true, true, true, true, true, true, true, true, true, true, true, true, false] rfl rfl (any_of HT_.out (by kernel_rfl)) (fun _ _ _ h => h) (Or.inl ⟨by rfl, ?_⟩) ?_ ?_; rotate_left; (focus (intro w'; go_simp; with_reducible rfl)); rotate_left; (focus (simp only [Act.put, List.setIfInBounds_toArray, List.set_cons_zero, List.set_cons_succ, i64_w, i32_w]; rfl)))
                        (refine pure_ (i := 15) (N := some 9) (v := ?_) (a' := ?_) #[true, true, true, true, true, true, true, true, true, true, true, true, true, true, true, true] rfl rfl (any_of HT_.out (by kernel_rfl)) (fun _ _ _ h => h) (Or.inl ⟨by rfl, ?_⟩) ?_ ?_; rotate_left; (focus (intro w'; go_simp; with_reducible rfl)); rotate_left; (focus (simp only [Act.put, List.setIfInBounds_toArray, List.set_cons_zero, List.set_cons_succ, i64_w, i32_w]; rfl)))
                        refine done_ (done_of HT_.out (by kernel_rfl)) ?_
                        try go_wp2
                        go_roundg k2
                        case measure => have := HJ2.out; have := HK2.out; omega
                        case rel => exact ⟨(y284), (y290), _, _, (wrap64 (x10_2 + 1)), (by first | rfl | (simp; done) | (simp [*]; done)), (by first | rfl | (simp; done) | (simp [*]; done)), (by first | rfl | (simp; done) | (simp [*]; done)), H', ⟨by have := HJ2.out; have := HK2.out; omega⟩, ⟨by (with_reducible repeat (first | apply Kd.R_alloc | apply Kd.R_drewN | apply Kd.R_drew)); exact Kd.R_mono HO286.out (fun _ hk => hk.2)⟩, ⟨by (with_reducible repeat (first | apply Kd.R_alloc | apply Kd.R_drewN | apply Kd.R_drew)); exact Kd.R_mono HO292.out (fun _ hk => hk.2.1)⟩, ⟨by repeat first | with_reducible exact HB.out | apply zS | refine below_set ?_ GE278.out | refine below_set ?_ GE279.out | exact HB.out⟩⟩
                    · rw [if_neg c14] at H
                      exact absurd H (by simp)
                  · rw [if_neg c13] at H
                    exact absurd H (by simp)
                · replace c12 := Bool.eq_false_iff.mpr c12
                  subst c12
                  have H1 : ((some (([(⟨1, 0, (⟨#[]⟩ : ByteArray)⟩ : S23)] : List (S23)) : List (S23))).bind fun y296 => (if x5_2.length + y296.length < 4398046511104 then ((some (x5_2 ++ y296 : List (S23))).bind fun y299 => ((some (([(⟨1, 1, (⟨#[]⟩ : ByteArray)⟩ : S23)] : List (S23)) : List (S23))).bind fun y302 => (if x6_2.length + y302.length < 4398046511104 then ((some (x6_2 ++ y302 : List (S23))).bind fun y305 => (if x8_2 = true then (if x9_2 = true then (pannierlaw10_FoldTruths.l0 k2 l0 l1 y299 y305 false true (wrap64 (x10_2 + 1))) else (pannierlaw10_FoldTruths.l0 k2 l0 l1 y299 y305 false false (wrap64 (x10_2 + 1)))) else (if x9_2 = true then (pannierlaw10_FoldTruths.l0 k2 l0 l1 y299 y305 false true (wrap64 (x10_2 + 1))) else (pannierlaw10_FoldTruths.l0 k2 l0 l1 y299 y305 false false (wrap64 (x10_2 + 1)))))) else (none)))) else (none))) = some r := by rw [if_neg (show ¬ (false = true) by decide)] at H; exact H
                  clear H
                  have H := H1
                  clear H1
                  obtain ⟨y296, hy296⟩ : ∃ y_ : List (S23), y_ = (([(⟨1, 0, (⟨#[]⟩ : ByteArray)⟩ : S23)] : List (S23))) := ⟨_, rfl⟩
                  replace H : (if x5_2.length + y296.length < 4398046511104 then ((some (x5_2 ++ y296 : List (S23))).bind fun y299 => ((some (([(⟨1, 1, (⟨#[]⟩ : ByteArray)⟩ : S23)] : List (S23)) : List (S23))).bind fun y302 => (if x6_2.length + y302.length < 4398046511104 then ((some (x6_2 ++ y302 : List (S23))).bind fun y305 => (if x8_2 = true then (if x9_2 = true then (pannierlaw10_FoldTruths.l0 k2 l0 l1 y299 y305 false true (wrap64 (x10_2 + 1))) else (pannierlaw10_FoldTruths.l0 k2 l0 l1 y299 y305 false false (wrap64 (x10_2 + 1)))) else (if x9_2 = true then (pannierlaw10_FoldTruths.l0 k2 l0 l1 y299 y305 false true (wrap64 (x10_2 + 1))) else (pannierlaw10_FoldTruths.l0 k2 l0 l1 y299 y305 false false (wrap64 (x10_2 + 1)))))) else (none)))) else (none)) = some r := by first | (rw [hy296]; with_reducible exact H) | (have H2_ := (Option.bind_some _ _).symm.trans H; rw [hy296]; with_reducible exact H2_) | (have H2_ := (Option.bind_some _ _).symm.trans H; with_reducible exact H2_) | with_reducible exact H | (rw [hy296]; exact H) | exact H
                  have Ny296 := Aside0.mk hy296
                  clear hy296
                  by_cases c94 : x5_2.length + y296.length < 4398046511104
                  · rw [if_pos c94] at H
                    have LMc94 := Aside0.mk c94
                    clear c94
                    obtain ⟨y299, hy299⟩ : ∃ y_ : List (S23), y_ = (x5_2 ++ y296) := ⟨_, rfl⟩
                    replace H : ((some (([(⟨1, 1, (⟨#[]⟩ : ByteArray)⟩ : S23)] : List (S23)) : List (S23))).bind fun y302 => (if x6_2.length + y302.length < 4398046511104 then ((some (x6_2 ++ y302 : List (S23))).bind fun y305 => (if x8_2 = true then (if x9_2 = true then (pannierlaw10_FoldTruths.l0 k2 l0 l1 y299 y305 false true (wrap64 (x10_2 + 1))) else (pannierlaw10_FoldTruths.l0 k2 l0 l1 y299 y305 false false (wrap64 (x10_2 + 1)))) else (if x9_2 = true then (pannierlaw10_FoldTruths.l0 k2 l0 l1 y299 y305 false true (wrap64 (x10_2 + 1))) else (pannierlaw10_FoldTruths.l0 k2 l0 l1 y299 y305 false false (wrap64 (x10_2 + 1)))))) else (none))) = some r := by first | (rw [hy299]; with_reducible exact H) | (have H2_ := (Option.bind_some _ _).symm.trans H; rw [hy299]; with_reducible exact H2_) | (have H2_ := (Option.bind_some _ _).symm.trans H; with_reducible exact H2_) | with_reducible exact H | (rw [hy299]; exact H) | exact H
                    have Ny299 := Aside0.mk hy299
                    clear hy299
                    obtain ⟨y302, hy302⟩ : ∃ y_ : List (S23), y_ = (([(⟨1, 1, (⟨#[]⟩ : ByteArray)⟩ : S23)] : List (S23))) := ⟨_, rfl⟩
                    replace H : (if x6_2.length + y302.length < 4398046511104 then ((some (x6_2 ++ y302 : List (S23))).bind fun y305 => (if x8_2 = true then (if x9_2 = true then (pannierlaw10_FoldTruths.l0 k2 l0 l1 y299 y305 false true (wrap64 (x10_2 + 1))) else (pannierlaw10_FoldTruths.l0 k2 l0 l1 y299 y305 false false (wrap64 (x10_2 + 1)))) else (if x9_2 = true then (pannierlaw10_FoldTruths.l0 k2 l0 l1 y299 y305 false true (wrap64 (x10_2 + 1))) else (pannierlaw10_FoldTruths.l0 k2 l0 l1 y299 y305 false false (wrap64 (x10_2 + 1)))))) else (none)) = some r := by first | (rw [hy302]; with_reducible exact H) | (have H2_ := (Option.bind_some _ _).symm.trans H; rw [hy302]; with_reducible exact H2_) | (have H2_ := (Option.bind_some _ _).symm.trans H; with_reducible exact H2_) | with_reducible exact H | (rw [hy302]; exact H) | exact H
                    have Ny302 := Aside0.mk hy302
                    clear hy302
                    by_cases c95 : x6_2.length + y302.length < 4398046511104
                    · rw [if_pos c95] at H
                      have LMc95 := Aside0.mk c95
                      clear c95
                      obtain ⟨y305, hy305⟩ : ∃ y_ : List (S23), y_ = (x6_2 ++ y302) := ⟨_, rfl⟩
                      replace H : (if x8_2 = true then (if x9_2 = true then (pannierlaw10_FoldTruths.l0 k2 l0 l1 y299 y305 false true (wrap64 (x10_2 + 1))) else (pannierlaw10_FoldTruths.l0 k2 l0 l1 y299 y305 false false (wrap64 (x10_2 + 1)))) else (if x9_2 = true then (pannierlaw10_FoldTruths.l0 k2 l0 l1 y299 y305 false true (wrap64 (x10_2 + 1))) else (pannierlaw10_FoldTruths.l0 k2 l0 l1 y299 y305 false false (wrap64 (x10_2 + 1))))) = some r := by first | (rw [hy305]; with_reducible exact H) | (have H2_ := (Option.bind_some _ _).symm.trans H; rw [hy305]; with_reducible exact H2_) | (have H2_ := (Option.bind_some _ _).symm.trans H; with_reducible exact H2_) | with_reducible exact H | (rw [hy305]; exact H) | exact H
                      have Ny305 := Aside0.mk hy305
                      clear hy305
                      have H4 : (pannierlaw10_FoldTruths.l0 k2 l0 l1 y299 y305 (x8_2 && false) (x9_2 || false) (wrap64 (x10_2 + 1))) = some r := by revert H; cases x8_2 <;> cases x9_2 <;> first | exact id | (intro h_; simpa using h_)
                      clear H
                      have H' := Aside0.mk H4
                      clear H4
                      try go_wp2_with (first | ((with_reducible refine gate_dst (N := 11) rfl ?_); (try (refine gate_guard (by rfl) ?_; dsimp only)); refine box_event ?hg (N := 11) ?hd (cs := #[.int .i64 0, .int .i64 0, .string (⟨#[]⟩ : ByteArray)]) (t := 23) ?hr ?_; (case hd => rfl); (case hg => rfl); (case hr => first | (go_simp; done) | (go_simp; rfl)); intro gb278 hg w98 hbox hb; have n0_ := Aside0.mk (Kd.R_below (Kd.R_elderB (by (with_reducible repeat (first | apply Kd.R_alloc | apply Kd.R_drewN | apply Kd.R_drew)); exact HO_5.out) gb278 (Nat.le_of_eq hg.symm)) hb); have n1_ := Aside0.mk (Kd.R_below (Kd.R_elderB (by (with_reducible repeat (first | apply Kd.R_alloc | apply Kd.R_drewN | apply Kd.R_drew)); exact HO_6.out) gb278 (Nat.le_of_eq hg.symm)) hb); have n2_ := Aside0.mk (below_step (by repeat first | with_reducible exact HB.out | apply zS | exact HB.out) hb); have n3_ := Aside0.mk (hbox); have n4_ := Aside0.mk ((by rw [hg]; exact (below_size (by repeat first | with_reducible exact HB.out | apply zS | exact HB.out)) : w.heap.size ≤ gb278)); have n5_ := n4_; clear HO_5; clear HO_6; clear HB; have HO_5 := n0_; have HO_6 := n1_; have HB := n2_; have BK278 := n3_; have GW278 := n4_; have GE278 := n5_; clear n0_ n1_ n2_ n3_ n4_ n5_; clear hb hbox hg) | ((with_reducible refine gate_dst (N := 12) rfl ?_); (try (refine gate_guard (by rfl) ?_; dsimp only)); refine box_event ?hg (N := 12) ?hd (cs := #[.int .i64 0, .int .i64 0, .string (⟨#[]⟩ : ByteArray)]) (t := 23) ?hr ?_; (case hd => rfl); (case hg => rfl); (case hr => first | (go_simp; done) | (go_simp; rfl)); intro gb279 hg w99 hbox hb; have n0_ := Aside0.mk (Kd.R_below (Kd.R_elderB (by (with_reducible repeat (first | apply Kd.R_alloc | apply Kd.R_drewN | apply Kd.R_drew)); exact HO_5.out) gb279 (Nat.le_of_eq hg.symm)) hb); have n1_ := Aside0.mk (Kd.R_below (Kd.R_elderB (by (with_reducible repeat (first | apply Kd.R_alloc | apply Kd.R_drewN | apply Kd.R_drew)); exact HO_6.out) gb279 (Nat.le_of_eq hg.symm)) hb); have n2_ := Aside0.mk (blk_below (g := gb278) (o := .cells #[.int .i64 0, .int .i64 0, .string (⟨#[]⟩ : ByteArray)] 23 (0, 0)) (zB BK278.out) hb); have n3_ := Aside0.mk (below_step (by repeat first | with_reducible exact HB.out | apply zS | refine below_set ?_ GE278.out | exact HB.out) hb); have n4_ := Aside0.mk (hbox); have n5_ := Aside0.mk ((by rw [hg]; exact (below_size (by repeat first | with_reducible exact HB.out | apply zS | refine below_set ?_ GE278.out | exact HB.out)) : w.heap.size ≤ gb279)); have n6_ := n5_; have n7_ := Aside0.mk ((by rw [hg]; exact Nat.ne_of_lt (blk_lt (g := gb278) (o := .cells #[.int .i64 0, .int .i64 0, .string (⟨#[]⟩ : ByteArray)] 23 (0, 0)) (zB BK278.out)) : gb278 ≠ gb279)); have n8_ := Aside0.mk ((by rw [hg]; exact Nat.ne_of_gt (blk_lt (g := gb278) (o := .cells #[.int .i64 0, .int .i64 0, .string (⟨#[]⟩ : ByteArray)] 23 (0, 0)) (zB BK278.out)) : gb279 ≠ gb278)); clear HO_5; clear HO_6; clear BK278; clear HB; have HO_5 := n0_; have HO_6 := n1_; have BK278 := n2_; have HB := n3_; have BK279 := n4_; have GW279 := n5_; have GE279 := n6_; have NB278_279 := n7_; have NB279_278 := n8_; clear n0_ n1_ n2_ n3_ n4_ n5_ n6_ n7_ n8_; clear hb hbox hg; have hnb100 := NB278_279.out; have hnc100 := NB279_278.out; obtain ⟨hcz101_0, hcz101_1, hcz101_2, hfz101_0, hfz101_1, hfz101_2⟩ := zC3 BK278.out; obtain ⟨hcz102_0, hcz102_1, hcz102_2, hfz102_0, hfz102_1, hfz102_2⟩ := zC3 BK279.out; have p280 : 0 ≤ (x10_2 : Int) := of_decide_eq_true (by first | (with_reducible assumption) | assumption); have q280 : x10_2 < (l0.length : Int) := of_decide_eq_true (by first | (with_reducible assumption) | assumption); obtain ⟨ad280, e280, hx280_0⟩ := Kd.at_bool HR0.out x10_2 p280 q280; (try rw [← Nbq11.out] at hx280_0); cases e280; have hn280_0 : ad280.block ≠ gb278 := Nat.ne_of_lt (Nat.lt_of_lt_of_le (by have := World.block_lt_of_cell? _ _ hx280_0; first | rwa [add_block] at this | exact this) GW278.out); have hn280_1 : ad280.block ≠ gb278 := Nat.ne_of_lt (Nat.lt_of_lt_of_le (by have := World.block_lt_of_cell? _ _ hx280_0; first | rwa [add_block] at this | exact this) GW278.out); have hn280_2 : ad280.block ≠ gb278 := Nat.ne_of_lt (Nat.lt_of_lt_of_le (by have := World.block_lt_of_cell? _ _ hx280_0; first | rwa [add_block] at this | exact this) GW278.out); have hn280_3 : ad280.block ≠ gb279 := Nat.ne_of_lt (Nat.lt_of_lt_of_le (by have := World.block_lt_of_cell? _ _ hx280_0; first | rwa [add_block] at this | exact this) GW279.out); have hn280_4 : ad280.block ≠ gb279 := Nat.ne_of_lt (Nat.lt_of_lt_of_le (by have := World.block_lt_of_cell? _ _ hx280_0; first | rwa [add_block] at this | exact this) GW279.out); have hn280_5 : ad280.block ≠ gb279 := Nat.ne_of_lt (Nat.lt_of_lt_of_le (by have := World.block_lt_of_cell? _ _ hx280_0; first | rwa [add_block] at this | exact this) GW279.out); replace hx280_0 := (HB.out.cell (World.block_lt_of_cell? w _ hx280_0)).trans hx280_0; replace hx280_0 := (cell_far (p := ⟨gb278, 0, none⟩) (by first | (rw [add_block]; exact hn280_0) | (show (Addr.add _ _).block ≠ _; rw [add_block]; exact hn280_0) | exact hn280_0) (.int .i64 1)).trans hx280_0; replace hx280_0 := (cell_far (p := ⟨gb278, 1, none⟩) (by first | (rw [add_block]; exact hn280_1) | (show (Addr.add _ _).block ≠ _; rw [add_block]; exact hn280_1) | exact hn280_1) (.int .i64 0)).trans hx280_0; replace hx280_0 := (cell_far (p := ⟨gb278, 2, none⟩) (by first | (rw [add_block]; exact hn280_2) | (show (Addr.add _ _).block ≠ _; rw [add_block]; exact hn280_2) | exact hn280_2) (.string (⟨#[]⟩ : ByteArray))).trans hx280_0; replace hx280_0 := (cell_far (p := ⟨gb279, 0, none⟩) (by first | (rw [add_block]; exact hn280_3) | (show (Addr.add _ _).block ≠ _; rw [add_block]; exact hn280_3) | exact hn280_3) (.int .i64 1)).trans hx280_0; replace hx280_0 := (cell_far (p := ⟨gb279, 1, none⟩) (by first | (rw [add_block]; exact hn280_4) | (show (Addr.add _ _).block ≠ _; rw [add_block]; exact hn280_4) | exact hn280_4) (.int .i64 1)).trans hx280_0; replace hx280_0 := (cell_far (p := ⟨gb279, 2, none⟩) (by first | (rw [add_block]; exact hn280_5) | (show (Addr.add _ _).block ≠ _; rw [add_block]; exact hn280_5) | exact hn280_5) (.string (⟨#[]⟩ : ByteArray))).trans hx280_0; clear hn280_0; clear hn280_1; clear hn280_2; clear hn280_3; clear hn280_4; clear hn280_5; replace p280 := eq_true p280; replace q280 := eq_true q280; obtain ⟨Ao103, co103, eo103⟩ := Kd.R_slice HO_5.out; subst eo103; obtain ⟨Ao104, co104, eo104⟩ := Kd.R_slice HO_6.out; subst eo104))
                      have n0_ : Aside0 (Kd.R k23 23 ((((((w99.setCell ⟨gb278, 0, none⟩ (.int .i64 1)).setCell ⟨gb278, 1, none⟩ (.int .i64 0)).setCell ⟨gb278, 2, none⟩ (.string (⟨#[]⟩ : ByteArray))).setCell ⟨gb279, 0, none⟩ (.int .i64 1)).setCell ⟨gb279, 1, none⟩ (.int .i64 1)).setCell ⟨gb279, 2, none⟩ (.string (⟨#[]⟩ : ByteArray))) w.heap.size (fun k_ => some k_ ≠ (.slice Ao104 x6_2.length co104 : Value).ownBlock ∧ k_ ≠ gb278 ∧ k_ ≠ gb279) (.slice Ao103 x5_2.length co103) x5_2) := ⟨by (with_reducible repeat (first | apply Kd.R_alloc | apply Kd.R_drewN | apply Kd.R_drew)); exact Kd.R_mono (Kd.R_far (p := ⟨gb279, 2, none⟩) (Kd.R_far (p := ⟨gb279, 1, none⟩) (Kd.R_far (p := ⟨gb279, 0, none⟩) (Kd.R_far (p := ⟨gb278, 2, none⟩) (Kd.R_far (p := ⟨gb278, 1, none⟩) (Kd.R_far (p := ⟨gb278, 0, none⟩) (Kd.R_mono (Kd.R_mono HO_5.out (fun k_ hk => (⟨hk, hk.1.2⟩ : _ ∧ k_ ≠ gb278))) (fun k_ hk => (⟨hk, hk.1.2⟩ : _ ∧ k_ ≠ gb279))) (fun _ hk => hk.1.2) (.int .i64 1)) (fun _ hk => hk.1.2) (.int .i64 0)) (fun _ hk => hk.1.2) (.string (⟨#[]⟩ : ByteArray))) (fun _ hk => hk.2) (.int .i64 1)) (fun _ hk => hk.2) (.int .i64 1)) (fun _ hk => hk.2) (.string (⟨#[]⟩ : ByteArray))) (fun _ hk => ⟨hk.1.1.1.1, ⟨hk.1.1.1.2, hk.1.1.2⟩⟩)⟩
                      have n1_ : Aside0 (Kd.R k23 23 ((((((w99.setCell ⟨gb278, 0, none⟩ (.int .i64 1)).setCell ⟨gb278, 1, none⟩ (.int .i64 0)).setCell ⟨gb278, 2, none⟩ (.string (⟨#[]⟩ : ByteArray))).setCell ⟨gb279, 0, none⟩ (.int .i64 1)).setCell ⟨gb279, 1, none⟩ (.int .i64 1)).setCell ⟨gb279, 2, none⟩ (.string (⟨#[]⟩ : ByteArray))) w.heap.size (fun k_ => some k_ ≠ (.slice Ao103 x5_2.length co103 : Value).ownBlock ∧ k_ ≠ gb278 ∧ k_ ≠ gb279) (.slice Ao104 x6_2.length co104) x6_2) := ⟨by (with_reducible repeat (first | apply Kd.R_alloc | apply Kd.R_drewN | apply Kd.R_drew)); exact Kd.R_mono (Kd.R_far (p := ⟨gb279, 2, none⟩) (Kd.R_far (p := ⟨gb279, 1, none⟩) (Kd.R_far (p := ⟨gb279, 0, none⟩) (Kd.R_far (p := ⟨gb278, 2, none⟩) (Kd.R_far (p := ⟨gb278, 1, none⟩) (Kd.R_far (p := ⟨gb278, 0, none⟩) (Kd.R_mono (Kd.R_mono HO_6.out (fun k_ hk => (⟨hk, hk.1.2⟩ : _ ∧ k_ ≠ gb278))) (fun k_ hk => (⟨hk, hk.1.2⟩ : _ ∧ k_ ≠ gb279))) (fun _ hk => hk.1.2) (.int .i64 1)) (fun _ hk => hk.1.2) (.int .i64 0)) (fun _ hk => hk.1.2) (.string (⟨#[]⟩ : ByteArray))) (fun _ hk => hk.2) (.int .i64 1)) (fun _ hk => hk.2) (.int .i64 1)) (fun _ hk => hk.2) (.string (⟨#[]⟩ : ByteArray))) (fun _ hk => ⟨hk.1.1.1.1, ⟨hk.1.1.1.2, hk.1.1.2⟩⟩)⟩
                      have n2_ : Aside0 (((((((w99.setCell ⟨gb278, 0, none⟩ (.int .i64 1)).setCell ⟨gb278, 1, none⟩ (.int .i64 0)).setCell ⟨gb278, 2, none⟩ (.string (⟨#[]⟩ : ByteArray))).setCell ⟨gb279, 0, none⟩ (.int .i64 1)).setCell ⟨gb279, 1, none⟩ (.int .i64 1)).setCell ⟨gb279, 2, none⟩ (.string (⟨#[]⟩ : ByteArray))).heap[gb278]? = some (.cells #[.int .i64 1, .int .i64 0, .string (⟨#[]⟩ : ByteArray)] 23 (0, 0))) := ⟨by refine zB (blk_far ?_ NB278_279.out _); refine zB ?_; refine blk_far ?_ NB278_279.out _; refine zB (blk_far ?_ NB278_279.out _); refine zB ?_; refine blk_put (cs := #[.int .i64 1, .int .i64 0, .string (⟨#[]⟩ : ByteArray)]) ?_ 2 _ rfl; refine zB ?_; refine blk_put (cs := #[.int .i64 1, .int .i64 0, .string (⟨#[]⟩ : ByteArray)]) ?_ 1 _ rfl; refine zB ?_; refine blk_put (cs := #[.int .i64 0, .int .i64 0, .string (⟨#[]⟩ : ByteArray)]) ?_ 0 _ rfl; refine zB ?_; exact BK278.out⟩
                      have n3_ : Aside0 (((((((w99.setCell ⟨gb278, 0, none⟩ (.int .i64 1)).setCell ⟨gb278, 1, none⟩ (.int .i64 0)).setCell ⟨gb278, 2, none⟩ (.string (⟨#[]⟩ : ByteArray))).setCell ⟨gb279, 0, none⟩ (.int .i64 1)).setCell ⟨gb279, 1, none⟩ (.int .i64 1)).setCell ⟨gb279, 2, none⟩ (.string (⟨#[]⟩ : ByteArray))).heap[gb279]? = some (.cells #[.int .i64 1, .int .i64 1, .string (⟨#[]⟩ : ByteArray)] 23 (0, 0))) := ⟨by refine zB ?_; refine blk_put (cs := #[.int .i64 1, .int .i64 1, .string (⟨#[]⟩ : ByteArray)]) ?_ 2 _ rfl; refine zB ?_; refine blk_put (cs := #[.int .i64 1, .int .i64 0, .string (⟨#[]⟩ : ByteArray)]) ?_ 1 _ rfl; refine zB ?_; refine blk_put (cs := #[.int .i64 0, .int .i64 0, .string (⟨#[]⟩ : ByteArray)]) ?_ 0 _ rfl; refine zB (blk_far ?_ NB279_278.out _); refine zB ?_; refine blk_far ?_ NB279_278.out _; refine zB (blk_far ?_ NB279_278.out _); refine zB ?_; exact BK279.out⟩
                      have n4_ : Aside0 (Below w.heap.size w ((((((w99.setCell ⟨gb278, 0, none⟩ (.int .i64 1)).setCell ⟨gb278, 1, none⟩ (.int .i64 0)).setCell ⟨gb278, 2, none⟩ (.string (⟨#[]⟩ : ByteArray))).setCell ⟨gb279, 0, none⟩ (.int .i64 1)).setCell ⟨gb279, 1, none⟩ (.int .i64 1)).setCell ⟨gb279, 2, none⟩ (.string (⟨#[]⟩ : ByteArray)))) := ⟨by repeat first | with_reducible exact HB.out | apply zS | refine below_set ?_ GE278.out | refine below_set ?_ GE279.out | exact HB.out⟩
                      (try clear HO_5)
                      (try clear HO_6)
                      (try clear BK278)
                      (try clear BK279)
                      (try clear HB)
                      generalize ((((((w99.setCell ⟨gb278, 0, none⟩ (.int .i64 1)).setCell ⟨gb278, 1, none⟩ (.int .i64 0)).setCell ⟨gb278, 2, none⟩ (.string (⟨#[]⟩ : ByteArray))).setCell ⟨gb279, 0, none⟩ (.int .i64 1)).setCell ⟨gb279, 1, none⟩ (.int .i64 1)).setCell ⟨gb279, 2, none⟩ (.string (⟨#[]⟩ : ByteArray))) = w105 at n0_ n1_ n2_ n3_ n4_ ⊢
                      have HO_5 := n0_
                      have HO_6 := n1_
                      have BK278 := n2_
                      have BK279 := n3_
                      have HB := n4_
                      clear n0_ n1_ n2_ n3_ n4_
                      have n0_ := Aside0.mk (Kd.R_drew HO_5.out)
                      have n1_ := Aside0.mk (Kd.R_drew HO_6.out)
                      have n2_ := Aside0.mk (blk_drew BK278.out)
                      have n3_ := Aside0.mk (blk_drew BK279.out)
                      have n4_ := Aside0.mk (below_drew1 HB.out)
                      clear HO_5
                      clear HO_6
                      clear BK278
                      clear BK279
                      clear HB
                      have HO_5 := n0_
                      have HO_6 := n1_
                      have BK278 := n2_
                      have BK279 := n3_
                      have HB := n4_
                      clear n0_ n1_ n2_ n3_ n4_
                      refine start_ (n := 10) (S := fun w' => w'.cell? ⟨gb278, 0, none⟩ = some (.int .i64 1) ∧ w'.cell? ⟨gb278, 1, none⟩ = some (.int .i64 0) ∧ w'.cell? ⟨gb278, 2, none⟩ = some (.string (⟨#[]⟩ : ByteArray)) ∧ w'.cell? ⟨gb279, 0, none⟩ = some (.int .i64 1) ∧ w'.cell? ⟨gb279, 1, none⟩ = some (.int .i64 1) ∧ w'.cell? ⟨gb279, 2, none⟩ = some (.string (⟨#[]⟩ : ByteArray))) (ds := []) #[false, false, false, false, false, false, false, false, false, false] (by kernel_rfl) rfl rfl ⟨(blk_cell BK278.out 0).trans rfl, (blk_cell BK278.out 1).trans rfl, (blk_cell BK278.out 2).trans rfl, (blk_cell BK279.out 0).trans rfl, (blk_cell BK279.out 1).trans rfl, (blk_cell BK279.out 2).trans rfl⟩ (fun hHeld => ?_); refine with_tabW pannierlaw10_FoldTruths.tab11 pannierlaw10_FoldTruths.bits11 (fun HT_ HW_ => ?_)
                      generalize w105.drew = w106 at HO_5 HO_6 BK278 BK279 HB hHeld ⊢
                      refine pure_ (i := 0) (N := some 51) (v := ?_) (a' := ?_) #[true, false, false, false, false, false, false, false, false, false] rfl rfl (any_of HT_.out (by kernel_rfl)) (fun _ _ _ h => h) (Or.inl ⟨by rfl, ?_⟩) ?_ ?_
                      rotate_left
                      · intro w'
                        go_simp
                        with_reducible rfl
                      rotate_left
                      · simp only [Act.put, List.setIfInBounds_toArray, List.set_cons_zero, List.set_cons_succ, i64_w, i32_w]
                        rfl
                      refine pure_ (i := 4) (N := some 55) (v := ?_) (a' := ?_) #[true, false, false, false, true, false, false, false, false, false] rfl rfl (any_of HT_.out (by kernel_rfl)) (fun _ _ _ h => h) (Or.inl ⟨by rfl, ?_⟩) ?_ ?_
                      rotate_left
                      · intro w'
                        go_simp
                        with_reducible rfl
                      rotate_left
                      · simp only [Act.put, List.setIfInBounds_toArray, List.set_cons_zero, List.set_cons_succ, i64_w, i32_w]
                        rfl
                      refine take_ (i := 1) (N := some 52) (v := ?_) (a' := ?_) #[true, true, false, false, true, false, false, false, false, false] rfl rfl (take_ofW HT_.out HW_.out (by kernel_rfl)) (fun _ _ _ h => h) (Or.inl ⟨by rfl, ?_⟩) hHeld ?_ ?_
                      rotate_left
                      · rintro w' ⟨s0, s1, s2, s3, s4, s5⟩
                        go_simp
                        with_reducible rfl
                      rotate_left
                      · simp only [Act.put, List.setIfInBounds_toArray, List.set_cons_zero, List.set_cons_succ, i64_w, i32_w]
                        rfl
                      refine take_ (i := 5) (N := some 56) (v := ?_) (a' := ?_) #[true, true, false, false, true, true, false, false, false, false] rfl rfl (take_ofW HT_.out HW_.out (by kernel_rfl)) (fun _ _ _ h => h) (Or.inl ⟨by rfl, ?_⟩) hHeld ?_ ?_
                      rotate_left
                      · rintro w' ⟨s0, s1, s2, s3, s4, s5⟩
                        go_simp
                        with_reducible rfl
                      rotate_left
                      · simp only [Act.put, List.setIfInBounds_toArray, List.set_cons_zero, List.set_cons_succ, i64_w, i32_w]
                        rfl
                      refine join_ (σ := Value × Value × Value) 3 #[true, true, true, true, true, true, true, false, false, false] (fun s_ => [(53, s_.1), (54, s_.2.1), (57, s_.2.2)]) (fun s_ w' => (w'.cell? ⟨gb278, 0, none⟩ = some (.int .i64 1) ∧ w'.cell? ⟨gb278, 1, none⟩ = some (.int .i64 0) ∧ w'.cell? ⟨gb278, 2, none⟩ = some (.string (⟨#[]⟩ : ByteArray)) ∧ w'.cell? ⟨gb279, 0, none⟩ = some (.int .i64 1) ∧ w'.cell? ⟨gb279, 1, none⟩ = some (.int .i64 1) ∧ w'.cell? ⟨gb279, 2, none⟩ = some (.string (⟨#[]⟩ : ByteArray))) ∧ (Kd.R k23 23 w' w.heap.size (fun k_ => some k_ ≠ (s_.2.1 : Value).ownBlock ∧ some k_ ≠ (s_.2.2 : Value).ownBlock ∧ some k_ ≠ (.slice Ao104 x6_2.length co104 : Value).ownBlock ∧ k_ ≠ gb278 ∧ k_ ≠ gb279) s_.1 y296) ∧ (Kd.R k23 23 w' w.heap.size (fun k_ => some k_ ≠ (s_.1 : Value).ownBlock ∧ some k_ ≠ (s_.2.2 : Value).ownBlock ∧ some k_ ≠ (.slice Ao104 x6_2.length co104 : Value).ownBlock ∧ k_ ≠ gb278 ∧ k_ ≠ gb279) s_.2.1 y299) ∧ (Kd.R k23 23 w' w.heap.size (fun k_ => some k_ ≠ (s_.1 : Value).ownBlock ∧ some k_ ≠ (s_.2.1 : Value).ownBlock ∧ some k_ ≠ (.slice Ao104 x6_2.length co104 : Value).ownBlock ∧ k_ ≠ gb278 ∧ k_ ≠ gb279) s_.2.2 y302) ∧ (Kd.R k23 23 w' w.heap.size (fun k_ => some k_ ≠ (s_.1 : Value).ownBlock ∧ some k_ ≠ (s_.2.1 : Value).ownBlock ∧ some k_ ≠ (s_.2.2 : Value).ownBlock ∧ k_ ≠ gb278 ∧ k_ ≠ gb279) (.slice Ao104 x6_2.length co104) x6_2) ∧ (w'.heap[gb278]? = some (.cells #[.int .i64 1, .int .i64 0, .string (⟨#[]⟩ : ByteArray)] 23 (0, 0))) ∧ (w'.heap[gb279]? = some (.cells #[.int .i64 1, .int .i64 1, .string (⟨#[]⟩ : ByteArray)] 23 (0, 0))) ∧ (Below w.heap.size w w')) ?_ ?_
                      rotate_left
                      · intro hCont
                        refine two_ (i := 2) (j := 6) (Ni := some 53) (Nj := some 57) #[true, true, true, false, true, true, false, false, false, false] #[true, true, false, false, true, true, true, false, false, false] rfl rfl rfl rfl (two_of HT_.out (by kernel_rfl)) (by decide) (by decide) (fun K hK => ?_) (fun K hK => ?_)
                        · skip
                          refine Kd.R_lit_step k23 _ 23 ?hg (N := 53) ?hd (xs := ([(⟨1, 0, (⟨#[]⟩ : ByteArray)⟩ : S23)] : List (S23))) (inner := [.int .i64 1, .int .i64 0, .string (⟨#[]⟩ : ByteArray)]) (ok := fun _ => True) (okp := fun _ => True) ?hr ?hp (fun _ hk => hk) trivial (Below.refl _ _) (Nat.le_refl _) (by simp) ?_; (case hd => rfl); (case hg => rfl); (case hr => first | (go_simp; done) | (go_simp; rfl)); (case hp => exact (Reps.c3 (show Kd.M k23 _ _ _ (⟨1, 0, (⟨#[]⟩ : ByteArray)⟩ : S23) [.int .i64 1, .int .i64 0, .string (⟨#[]⟩ : ByteArray)] from (k23_mkM _ _ _ (⟨1, 0, (⟨#[]⟩ : ByteArray)⟩ : S23) )) (Reps.none _ _)))
                          intro v297 w107 ho108 hb hg_ hnew_
                          clear hg_ hnew_
                          (first | rw [← Ny296.out] at ho108 | (simp only [Int.reduceToNat] at ho108; rw [← Ny296.out] at ho108))
                          have n0_ := Aside0.mk (Kd.R_elder' (by (with_reducible repeat (first | apply Kd.R_alloc | apply Kd.R_drewN | apply Kd.R_drew)); exact HO_5.out) (Kd.R_base ho108) hb)
                          have n1_ := Aside0.mk (Kd.R_elder' (by (with_reducible repeat (first | apply Kd.R_alloc | apply Kd.R_drewN | apply Kd.R_drew)); exact HO_6.out) (Kd.R_base ho108) hb)
                          have n2_ := Aside0.mk (Kd.R_lower (Kd.R_newB (Kd.R_newB (Kd.R_new' (Kd.R_new' ho108 (Kd.R_lt (by (with_reducible repeat (first | apply Kd.R_alloc | apply Kd.R_drewN | apply Kd.R_drew)); exact HO_5.out))) (Kd.R_lt (by (with_reducible repeat (first | apply Kd.R_alloc | apply Kd.R_drewN | apply Kd.R_drew)); exact HO_6.out))) (g := gb278) (o := .cells #[.int .i64 1, .int .i64 0, .string (⟨#[]⟩ : ByteArray)] 23 (0, 0)) (zB BK278.out)) (g := gb279) (o := .cells #[.int .i64 1, .int .i64 1, .string (⟨#[]⟩ : ByteArray)] 23 (0, 0)) (zB BK279.out)) (below_size (by repeat first | with_reducible exact HB.out | apply zS | refine below_set ?_ GE278.out | refine below_set ?_ GE279.out | exact HB.out)))
                          have n3_ := Aside0.mk (blk_below (g := gb278) (o := .cells #[.int .i64 1, .int .i64 0, .string (⟨#[]⟩ : ByteArray)] 23 (0, 0)) (zB BK278.out) hb)
                          have n4_ := Aside0.mk (blk_below (g := gb279) (o := .cells #[.int .i64 1, .int .i64 1, .string (⟨#[]⟩ : ByteArray)] 23 (0, 0)) (zB BK279.out) hb)
                          have n5_ := Aside0.mk (below_step (by repeat first | with_reducible exact HB.out | apply zS | refine below_set ?_ GE278.out | refine below_set ?_ GE279.out | exact HB.out) hb)
                          clear HO_5
                          clear HO_6
                          clear BK278
                          clear BK279
                          clear HB
                          have HO_5 := n0_
                          have HO_6 := n1_
                          have HO298 := n2_
                          have BK278 := n3_
                          have BK279 := n4_
                          have HB := n5_
                          clear n0_ n1_ n2_ n3_ n4_ n5_
                          clear hb ho108
                          obtain ⟨Ao110, co110, eo110⟩ := Kd.R_slice HO298.out
                          (first | subst eo110 | (injection eo110 with f1_ f2_ f3_; have f4_ := f1_.symm; have f5_ := f3_.symm; clear f1_ f2_ f3_; subst f4_; subst f5_))
                          refine hK.out _ _ ⟨(blk_cell BK278.out 0).trans rfl, (blk_cell BK278.out 1).trans rfl, (blk_cell BK278.out 2).trans rfl, (blk_cell BK279.out 0).trans rfl, (blk_cell BK279.out 1).trans rfl, (blk_cell BK279.out 2).trans rfl⟩ (fun hHeld => ?_)
                          clear hK K
                          refine norm_ (a' := ?_) ?_ ?_
                          rotate_left
                          · show Act.put _ (some 53) _ = _
                            simp only [Act.put, List.setIfInBounds_toArray, List.set_cons_zero, List.set_cons_succ, i64_w, i32_w]
                            rfl
                          refine two_ (i := 3) (j := 6) (Ni := some 54) (Nj := some 57) #[true, true, true, true, true, true, false, false, false, false] #[true, true, true, false, true, true, true, false, false, false] rfl rfl rfl rfl (two_of HT_.out (by kernel_rfl)) (by decide) (by decide) (fun K hK => ?_) (fun K hK => ?_)
                          · skip
                            refine Kd.R_append_rows_step k23 (w0 := w) w.heap.size (by rfl) (.tmp 51) (.tmp 53) 24 23 (.agg #[(.int .i64 0), (.int .i64 0), (.string ⟨#[]⟩)]) 32 rfl Tryd.underlying24 info23 rfl (by decide) (by omega) (.slice Ao103 x5_2.length co103) x5_2 y296 _ _ _ (fun k_ => some k_ ≠ (.slice Ao104 x6_2.length co104 : Value).ownBlock ∧ some k_ ≠ (.slice Ao110 y296.length co110 : Value).ownBlock ∧ k_ ≠ gb278 ∧ k_ ≠ gb279) (fun _ => False) rfl rfl ?aO ?aR (fun _ _ h => h) (fun _ h => h.elim) ?aF ?aB ?aS ?aL ?_
                            (case aR => repeat (first | exact (Kd.R_reads' HO298.out).2.2 | (with_reducible refine Kd.C_alloc ?_ _) | (with_reducible refine Kd.C_drewN ?_ _) | (with_reducible refine Kd.C_drew ?_)))
                            (case aB => exact (by repeat first | with_reducible exact HB.out | apply zS | refine below_set ?_ GE278.out | refine below_set ?_ GE279.out | exact HB.out))
                            (case aF => exact (fun k_ hk => ⟨Kd.fresh' (Kd.R_lt (by (with_reducible repeat (first | apply Kd.R_alloc | apply Kd.R_drewN | apply Kd.R_drew)); exact HO_6.out)) k_ hk, Kd.fresh' (Kd.R_lt (by (with_reducible repeat (first | apply Kd.R_alloc | apply Kd.R_drewN | apply Kd.R_drew)); exact HO298.out)) k_ hk, Kd.freshB (g := gb278) (o := .cells #[.int .i64 1, .int .i64 0, .string (⟨#[]⟩ : ByteArray)] 23 (0, 0)) (zB BK278.out) k_ hk, Kd.freshB (g := gb279) (o := .cells #[.int .i64 1, .int .i64 1, .string (⟨#[]⟩ : ByteArray)] 23 (0, 0)) (zB BK279.out) k_ hk⟩))
                            (case aO => exact (by (with_reducible repeat (first | apply Kd.R_alloc | apply Kd.R_drewN | apply Kd.R_drew)); exact Kd.R_mono HO_5.out (fun _ hk => ⟨hk.1.1, ⟨hk.2, ⟨hk.1.2.1, hk.1.2.2⟩⟩⟩)))
                            (case aS => exact (below_size (by repeat first | with_reducible exact HB.out | apply zS | refine below_set ?_ GE278.out | refine below_set ?_ GE279.out | exact HB.out)))
                            (case aL => have := LMc94.out; omega)
                            intro v300 w109 ho hb hg hat
                            rw [← Ny299.out] at ho
                            have n0_ := Aside0.mk (Kd.R_after (ok := (fun k_ => some k_ ≠ (.slice Ao110 y296.length co110 : Value).ownBlock ∧ k_ ≠ gb278 ∧ k_ ≠ gb279)) (by (with_reducible repeat (first | apply Kd.R_alloc | apply Kd.R_drewN | apply Kd.R_drew)); exact Kd.R_mono HO_6.out (fun _ hk => ⟨⟨hk.2, ⟨hk.1.2.1, hk.1.2.2⟩⟩, hk.1.1⟩)) hg hat)
                            have n1_ := Aside0.mk (blk_grown (g := gb278) (o := .cells #[.int .i64 1, .int .i64 0, .string (⟨#[]⟩ : ByteArray)] 23 (0, 0)) (zB BK278.out) hg (Kd.R_away HO_5.out (fun _ hk => hk.1.2.1)))
                            have n2_ := Aside0.mk (blk_grown (g := gb279) (o := .cells #[.int .i64 1, .int .i64 1, .string (⟨#[]⟩ : ByteArray)] 23 (0, 0)) (zB BK279.out) hg (Kd.R_away HO_5.out (fun _ hk => hk.1.2.2)))
                            have n3_ := Aside0.mk (Kd.R_after (ok := (fun k_ => some k_ ≠ (.slice Ao104 x6_2.length co104 : Value).ownBlock ∧ k_ ≠ gb278 ∧ k_ ≠ gb279)) (by (with_reducible repeat (first | apply Kd.R_alloc | apply Kd.R_drewN | apply Kd.R_drew)); exact Kd.R_mono HO298.out (fun _ hk => ⟨⟨hk.1.1.2, ⟨hk.1.2, hk.2⟩⟩, hk.1.1.1.2⟩)) hg hat)
                            have n4_ := Aside0.mk (hb)
                            have n5_ := Aside0.mk (ho)
                            clear HO_6
                            clear BK278
                            clear BK279
                            clear HO298
                            clear HB
                            clear HO_5
                            have HO_6 := n0_
                            have BK278 := n1_
                            have BK279 := n2_
                            have HO298 := n3_
                            have HB := n4_
                            have HO301 := n5_
                            clear n0_ n1_ n2_ n3_ n4_ n5_
                            clear ho hb hg hat
                            refine hK.out _ _ ⟨(blk_cell BK278.out 0).trans rfl, (blk_cell BK278.out 1).trans rfl, (blk_cell BK278.out 2).trans rfl, (blk_cell BK279.out 0).trans rfl, (blk_cell BK279.out 1).trans rfl, (blk_cell BK279.out 2).trans rfl⟩ (fun hHeld => ?_)
                            clear hK K
                            refine norm_ (a' := ?_) ?_ ?_
                            rotate_left
                            · show Act.put _ (some 54) _ = _
                              simp only [Act.put, List.setIfInBounds_toArray, List.set_cons_zero, List.set_cons_succ, i64_w, i32_w]
                              rfl
                            refine one_ (i := 6) (N := some 57) #[true, true, true, true, true, true, true, false, false, false] rfl rfl (one_of HT_.out (by kernel_rfl)) (by decide) (fun K hK => ?_)
                            refine Kd.R_lit_step k23 _ 23 ?hg (N := 57) ?hd (xs := ([(⟨1, 1, (⟨#[]⟩ : ByteArray)⟩ : S23)] : List (S23))) (inner := [.int .i64 1, .int .i64 1, .string (⟨#[]⟩ : ByteArray)]) (ok := fun _ => True) (okp := fun _ => True) ?hr ?hp (fun _ hk => hk) trivial (Below.refl _ _) (Nat.le_refl _) (by simp) ?_; (case hd => rfl); (case hg => rfl); (case hr => first | (go_simp; done) | (go_simp; rfl)); (case hp => exact (Reps.c3 (show Kd.M k23 _ _ _ (⟨1, 1, (⟨#[]⟩ : ByteArray)⟩ : S23) [.int .i64 1, .int .i64 1, .string (⟨#[]⟩ : ByteArray)] from (k23_mkM _ _ _ (⟨1, 1, (⟨#[]⟩ : ByteArray)⟩ : S23) )) (Reps.none _ _)))
                            intro v303 w111 ho112 hb hg_ hnew_
                            clear hg_ hnew_
                            (first | rw [← Ny302.out] at ho112 | (simp only [Int.reduceToNat] at ho112; rw [← Ny302.out] at ho112))
                            have n0_ := Aside0.mk (Kd.R_elder' (by (with_reducible repeat (first | apply Kd.R_alloc | apply Kd.R_drewN | apply Kd.R_drew)); exact HO_6.out) (Kd.R_base ho112) hb)
                            have n1_ := Aside0.mk (Kd.R_elder' (by (with_reducible repeat (first | apply Kd.R_alloc | apply Kd.R_drewN | apply Kd.R_drew)); exact HO298.out) (Kd.R_base ho112) hb)
                            have n2_ := Aside0.mk (Kd.R_elder' (by (with_reducible repeat (first | apply Kd.R_alloc | apply Kd.R_drewN | apply Kd.R_drew)); exact HO301.out) (Kd.R_base ho112) hb)
                            have n3_ := Aside0.mk (Kd.R_lower (Kd.R_newB (Kd.R_newB (Kd.R_new' (Kd.R_new' (Kd.R_new' ho112 (Kd.R_lt (by (with_reducible repeat (first | apply Kd.R_alloc | apply Kd.R_drewN | apply Kd.R_drew)); exact HO_6.out))) (Kd.R_lt (by (with_reducible repeat (first | apply Kd.R_alloc | apply Kd.R_drewN | apply Kd.R_drew)); exact HO298.out))) (Kd.R_lt (by (with_reducible repeat (first | apply Kd.R_alloc | apply Kd.R_drewN | apply Kd.R_drew)); exact HO301.out))) (g := gb278) (o := .cells #[.int .i64 1, .int .i64 0, .string (⟨#[]⟩ : ByteArray)] 23 (0, 0)) (zB BK278.out)) (g := gb279) (o := .cells #[.int .i64 1, .int .i64 1, .string (⟨#[]⟩ : ByteArray)] 23 (0, 0)) (zB BK279.out)) (below_size (by repeat first | with_reducible exact HB.out | apply zS | refine below_set ?_ GE278.out | refine below_set ?_ GE279.out | exact HB.out)))
                            have n4_ := Aside0.mk (blk_below (g := gb278) (o := .cells #[.int .i64 1, .int .i64 0, .string (⟨#[]⟩ : ByteArray)] 23 (0, 0)) (zB BK278.out) hb)
                            have n5_ := Aside0.mk (blk_below (g := gb279) (o := .cells #[.int .i64 1, .int .i64 1, .string (⟨#[]⟩ : ByteArray)] 23 (0, 0)) (zB BK279.out) hb)
                            have n6_ := Aside0.mk (below_step (by repeat first | with_reducible exact HB.out | apply zS | refine below_set ?_ GE278.out | refine below_set ?_ GE279.out | exact HB.out) hb)
                            clear HO_6
                            clear HO298
                            clear HO301
                            clear BK278
                            clear BK279
                            clear HB
                            have HO_6 := n0_
                            have HO298 := n1_
                            have HO301 := n2_
                            have HO304 := n3_
                            have BK278 := n4_
                            have BK279 := n5_
                            have HB := n6_
                            clear n0_ n1_ n2_ n3_ n4_ n5_ n6_
                            clear hb ho112
                            refine hK.out _ _ ⟨(blk_cell BK278.out 0).trans rfl, (blk_cell BK278.out 1).trans rfl, (blk_cell BK278.out 2).trans rfl, (blk_cell BK279.out 0).trans rfl, (blk_cell BK279.out 1).trans rfl, (blk_cell BK279.out 2).trans rfl⟩ (fun hHeld => ?_)
                            clear hK K
                            refine norm_ (a' := ?_) ?_ ?_
                            rotate_left
                            · show Act.put _ (some 57) _ = _
                              simp only [Act.put, List.setIfInBounds_toArray, List.set_cons_zero, List.set_cons_succ, i64_w, i32_w]
                              rfl
                            exact norm_ (by simp only [putAll, Act.put, List.setIfInBounds_toArray, List.set_cons_zero, List.set_cons_succ]) (hCont (.slice Ao110 y296.length co110, v300, v303) _ ⟨hHeld, (by (with_reducible repeat (first | apply Kd.R_alloc | apply Kd.R_drewN | apply Kd.R_drew)); exact Kd.R_mono HO298.out (fun _ hk => ⟨hk.1.2, ⟨hk.2, ⟨hk.1.1.1, ⟨hk.1.1.2.1, hk.1.1.2.2⟩⟩⟩⟩)), (by (with_reducible repeat (first | apply Kd.R_alloc | apply Kd.R_drewN | apply Kd.R_drew)); exact Kd.R_mono HO301.out (fun _ hk => ⟨hk.1.2.1, ⟨hk.2, ⟨hk.1.1, ⟨hk.1.2.2.1, hk.1.2.2.2⟩⟩⟩⟩)), (by (with_reducible repeat (first | apply Kd.R_alloc | apply Kd.R_drewN | apply Kd.R_drew)); exact Kd.R_mono HO304.out (fun _ hk => ⟨hk.1.1.1.2, ⟨hk.1.1.2, ⟨hk.1.1.1.1.2, ⟨hk.1.2, hk.2⟩⟩⟩⟩)), (by (with_reducible repeat (first | apply Kd.R_alloc | apply Kd.R_drewN | apply Kd.R_drew)); exact Kd.R_mono HO_6.out (fun _ hk => ⟨hk.1.1.1, ⟨hk.1.2, ⟨hk.2, ⟨hk.1.1.2.1, hk.1.1.2.2⟩⟩⟩⟩)), (zB BK278.out), (zB BK279.out), (by repeat first | with_reducible exact HB.out | apply zS | refine below_set ?_ GE278.out | refine below_set ?_ GE279.out | exact HB.out)⟩)
                          · skip
                            refine Kd.R_lit_step k23 _ 23 ?hg (N := 57) ?hd (xs := ([(⟨1, 1, (⟨#[]⟩ : ByteArray)⟩ : S23)] : List (S23))) (inner := [.int .i64 1, .int .i64 1, .string (⟨#[]⟩ : ByteArray)]) (ok := fun _ => True) (okp := fun _ => True) ?hr ?hp (fun _ hk => hk) trivial (Below.refl _ _) (Nat.le_refl _) (by simp) ?_; (case hd => rfl); (case hg => rfl); (case hr => first | (go_simp; done) | (go_simp; rfl)); (case hp => exact (Reps.c3 (show Kd.M k23 _ _ _ (⟨1, 1, (⟨#[]⟩ : ByteArray)⟩ : S23) [.int .i64 1, .int .i64 1, .string (⟨#[]⟩ : ByteArray)] from (k23_mkM _ _ _ (⟨1, 1, (⟨#[]⟩ : ByteArray)⟩ : S23) )) (Reps.none _ _)))
                            intro v303 w109 ho110 hb hg_ hnew_
                            clear hg_ hnew_
                            (first | rw [← Ny302.out] at ho110 | (simp only [Int.reduceToNat] at ho110; rw [← Ny302.out] at ho110))
                            have n0_ := Aside0.mk (Kd.R_elder' (by (with_reducible repeat (first | apply Kd.R_alloc | apply Kd.R_drewN | apply Kd.R_drew)); exact HO_5.out) (Kd.R_base ho110) hb)
                            have n1_ := Aside0.mk (Kd.R_elder' (by (with_reducible repeat (first | apply Kd.R_alloc | apply Kd.R_drewN | apply Kd.R_drew)); exact HO_6.out) (Kd.R_base ho110) hb)
                            have n2_ := Aside0.mk (Kd.R_elder' (by (with_reducible repeat (first | apply Kd.R_alloc | apply Kd.R_drewN | apply Kd.R_drew)); exact HO298.out) (Kd.R_base ho110) hb)
                            have n3_ := Aside0.mk (Kd.R_lower (Kd.R_newB (Kd.R_newB (Kd.R_new' (Kd.R_new' (Kd.R_new' ho110 (Kd.R_lt (by (with_reducible repeat (first | apply Kd.R_alloc | apply Kd.R_drewN | apply Kd.R_drew)); exact HO_5.out))) (Kd.R_lt (by (with_reducible repeat (first | apply Kd.R_alloc | apply Kd.R_drewN | apply Kd.R_drew)); exact HO_6.out))) (Kd.R_lt (by (with_reducible repeat (first | apply Kd.R_alloc | apply Kd.R_drewN | apply Kd.R_drew)); exact HO298.out))) (g := gb278) (o := .cells #[.int .i64 1, .int .i64 0, .string (⟨#[]⟩ : ByteArray)] 23 (0, 0)) (zB BK278.out)) (g := gb279) (o := .cells #[.int .i64 1, .int .i64 1, .string (⟨#[]⟩ : ByteArray)] 23 (0, 0)) (zB BK279.out)) (below_size (by repeat first | with_reducible exact HB.out | apply zS | refine below_set ?_ GE278.out | refine below_set ?_ GE279.out | exact HB.out)))
                            have n4_ := Aside0.mk (blk_below (g := gb278) (o := .cells #[.int .i64 1, .int .i64 0, .string (⟨#[]⟩ : ByteArray)] 23 (0, 0)) (zB BK278.out) hb)
                            have n5_ := Aside0.mk (blk_below (g := gb279) (o := .cells #[.int .i64 1, .int .i64 1, .string (⟨#[]⟩ : ByteArray)] 23 (0, 0)) (zB BK279.out) hb)
                            have n6_ := Aside0.mk (below_step (by repeat first | with_reducible exact HB.out | apply zS | refine below_set ?_ GE278.out | refine below_set ?_ GE279.out | exact HB.out) hb)
                            clear HO_5
                            clear HO_6
                            clear HO298
                            clear BK278
                            clear BK279
                            clear HB
                            have HO_5 := n0_
                            have HO_6 := n1_
                            have HO298 := n2_
                            have HO304 := n3_
                            have BK278 := n4_
                            have BK279 := n5_
                            have HB := n6_
                            clear n0_ n1_ n2_ n3_ n4_ n5_ n6_
                            clear hb ho110
                            obtain ⟨Ao112, co112, eo112⟩ := Kd.R_slice HO298.out
                            (first | subst eo112 | (injection eo112 with f1_ f2_ f3_; have f4_ := f1_.symm; have f5_ := f3_.symm; clear f1_ f2_ f3_; subst f4_; subst f5_))
                            refine hK.out _ _ ⟨(blk_cell BK278.out 0).trans rfl, (blk_cell BK278.out 1).trans rfl, (blk_cell BK278.out 2).trans rfl, (blk_cell BK279.out 0).trans rfl, (blk_cell BK279.out 1).trans rfl, (blk_cell BK279.out 2).trans rfl⟩ (fun hHeld => ?_)
                            clear hK K
                            refine norm_ (a' := ?_) ?_ ?_
                            rotate_left
                            · show Act.put _ (some 57) _ = _
                              simp only [Act.put, List.setIfInBounds_toArray, List.set_cons_zero, List.set_cons_succ, i64_w, i32_w]
                              rfl
                            refine one_ (i := 3) (N := some 54) #[true, true, true, true, true, true, true, false, false, false] rfl rfl (one_of HT_.out (by kernel_rfl)) (by decide) (fun K hK => ?_)
                            refine Kd.R_append_rows_step k23 (w0 := w) w.heap.size (by rfl) (.tmp 51) (.tmp 53) 24 23 (.agg #[(.int .i64 0), (.int .i64 0), (.string ⟨#[]⟩)]) 32 rfl Tryd.underlying24 info23 rfl (by decide) (by omega) (.slice Ao103 x5_2.length co103) x5_2 y296 _ _ _ (fun k_ => some k_ ≠ (.slice Ao104 x6_2.length co104 : Value).ownBlock ∧ some k_ ≠ (.slice Ao112 y296.length co112 : Value).ownBlock ∧ some k_ ≠ (v303 : Value).ownBlock ∧ k_ ≠ gb278 ∧ k_ ≠ gb279) (fun _ => False) rfl rfl ?aO ?aR (fun _ _ h => h) (fun _ h => h.elim) ?aF ?aB ?aS ?aL ?_
                            (case aR => repeat (first | exact (Kd.R_reads' HO298.out).2.2 | (with_reducible refine Kd.C_alloc ?_ _) | (with_reducible refine Kd.C_drewN ?_ _) | (with_reducible refine Kd.C_drew ?_)))
                            (case aB => exact (by repeat first | with_reducible exact HB.out | apply zS | refine below_set ?_ GE278.out | refine below_set ?_ GE279.out | exact HB.out))
                            (case aF => exact (fun k_ hk => ⟨Kd.fresh' (Kd.R_lt (by (with_reducible repeat (first | apply Kd.R_alloc | apply Kd.R_drewN | apply Kd.R_drew)); exact HO_6.out)) k_ hk, Kd.fresh' (Kd.R_lt (by (with_reducible repeat (first | apply Kd.R_alloc | apply Kd.R_drewN | apply Kd.R_drew)); exact HO298.out)) k_ hk, Kd.fresh' (Kd.R_lt (by (with_reducible repeat (first | apply Kd.R_alloc | apply Kd.R_drewN | apply Kd.R_drew)); exact HO304.out)) k_ hk, Kd.freshB (g := gb278) (o := .cells #[.int .i64 1, .int .i64 0, .string (⟨#[]⟩ : ByteArray)] 23 (0, 0)) (zB BK278.out) k_ hk, Kd.freshB (g := gb279) (o := .cells #[.int .i64 1, .int .i64 1, .string (⟨#[]⟩ : ByteArray)] 23 (0, 0)) (zB BK279.out) k_ hk⟩))
                            (case aO => exact (by (with_reducible repeat (first | apply Kd.R_alloc | apply Kd.R_drewN | apply Kd.R_drew)); exact Kd.R_mono HO_5.out (fun _ hk => ⟨hk.1.1.1, ⟨hk.1.2, ⟨hk.2, ⟨hk.1.1.2.1, hk.1.1.2.2⟩⟩⟩⟩)))
                            (case aS => exact (below_size (by repeat first | with_reducible exact HB.out | apply zS | refine below_set ?_ GE278.out | refine below_set ?_ GE279.out | exact HB.out)))
                            (case aL => have := LMc94.out; omega)
                            intro v300 w111 ho hb hg hat
                            rw [← Ny299.out] at ho
                            have n0_ := Aside0.mk (Kd.R_after (ok := (fun k_ => some k_ ≠ (.slice Ao112 y296.length co112 : Value).ownBlock ∧ some k_ ≠ (v303 : Value).ownBlock ∧ k_ ≠ gb278 ∧ k_ ≠ gb279)) (by (with_reducible repeat (first | apply Kd.R_alloc | apply Kd.R_drewN | apply Kd.R_drew)); exact Kd.R_mono HO_6.out (fun _ hk => ⟨⟨hk.1.2, ⟨hk.2, ⟨hk.1.1.2.1, hk.1.1.2.2⟩⟩⟩, hk.1.1.1⟩)) hg hat)
                            have n1_ := Aside0.mk (blk_grown (g := gb278) (o := .cells #[.int .i64 1, .int .i64 0, .string (⟨#[]⟩ : ByteArray)] 23 (0, 0)) (zB BK278.out) hg (Kd.R_away HO_5.out (fun _ hk => hk.1.1.2.1)))
                            have n2_ := Aside0.mk (blk_grown (g := gb279) (o := .cells #[.int .i64 1, .int .i64 1, .string (⟨#[]⟩ : ByteArray)] 23 (0, 0)) (zB BK279.out) hg (Kd.R_away HO_5.out (fun _ hk => hk.1.1.2.2)))
                            have n3_ := Aside0.mk (Kd.R_after (ok := (fun k_ => some k_ ≠ (.slice Ao104 x6_2.length co104 : Value).ownBlock ∧ some k_ ≠ (v303 : Value).ownBlock ∧ k_ ≠ gb278 ∧ k_ ≠ gb279)) (by (with_reducible repeat (first | apply Kd.R_alloc | apply Kd.R_drewN | apply Kd.R_drew)); exact Kd.R_mono HO298.out (fun _ hk => ⟨⟨hk.1.1.1.2, ⟨hk.2, ⟨hk.1.1.2, hk.1.2⟩⟩⟩, hk.1.1.1.1.2⟩)) hg hat)
                            have n4_ := Aside0.mk (Kd.R_after (ok := (fun k_ => some k_ ≠ (.slice Ao104 x6_2.length co104 : Value).ownBlock ∧ some k_ ≠ (.slice Ao112 y296.length co112 : Value).ownBlock ∧ k_ ≠ gb278 ∧ k_ ≠ gb279)) (by (with_reducible repeat (first | apply Kd.R_alloc | apply Kd.R_drewN | apply Kd.R_drew)); exact Kd.R_mono HO304.out (fun _ hk => ⟨⟨hk.1.1.1.2, ⟨hk.1.1.2, ⟨hk.1.2, hk.2⟩⟩⟩, hk.1.1.1.1.2⟩)) hg hat)
                            have n5_ := Aside0.mk (hb)
                            have n6_ := Aside0.mk (ho)
                            clear HO_6
                            clear BK278
                            clear BK279
                            clear HO298
                            clear HO304
                            clear HB
                            clear HO_5
                            have HO_6 := n0_
                            have BK278 := n1_
                            have BK279 := n2_
                            have HO298 := n3_
                            have HO304 := n4_
                            have HB := n5_
                            have HO301 := n6_
                            clear n0_ n1_ n2_ n3_ n4_ n5_ n6_
                            clear ho hb hg hat
                            refine hK.out _ _ ⟨(blk_cell BK278.out 0).trans rfl, (blk_cell BK278.out 1).trans rfl, (blk_cell BK278.out 2).trans rfl, (blk_cell BK279.out 0).trans rfl, (blk_cell BK279.out 1).trans rfl, (blk_cell BK279.out 2).trans rfl⟩ (fun hHeld => ?_)
                            clear hK K
                            refine norm_ (a' := ?_) ?_ ?_
                            rotate_left
                            · show Act.put _ (some 54) _ = _
                              simp only [Act.put, List.setIfInBounds_toArray, List.set_cons_zero, List.set_cons_succ, i64_w, i32_w]
                              rfl
                            exact norm_ (by simp only [putAll, Act.put, List.setIfInBounds_toArray, List.set_cons_zero, List.set_cons_succ]) (hCont (.slice Ao112 y296.length co112, v300, v303) _ ⟨hHeld, (by (with_reducible repeat (first | apply Kd.R_alloc | apply Kd.R_drewN | apply Kd.R_drew)); exact Kd.R_mono HO298.out (fun _ hk => ⟨hk.2, ⟨hk.1.2.1, ⟨hk.1.1, ⟨hk.1.2.2.1, hk.1.2.2.2⟩⟩⟩⟩)), (by (with_reducible repeat (first | apply Kd.R_alloc | apply Kd.R_drewN | apply Kd.R_drew)); exact Kd.R_mono HO301.out (fun _ hk => ⟨hk.2.1, ⟨hk.2.2.1, ⟨hk.1, ⟨hk.2.2.2.1, hk.2.2.2.2⟩⟩⟩⟩)), (by (with_reducible repeat (first | apply Kd.R_alloc | apply Kd.R_drewN | apply Kd.R_drew)); exact Kd.R_mono HO304.out (fun _ hk => ⟨hk.1.2.1, ⟨hk.2, ⟨hk.1.1, ⟨hk.1.2.2.1, hk.1.2.2.2⟩⟩⟩⟩)), (by (with_reducible repeat (first | apply Kd.R_alloc | apply Kd.R_drewN | apply Kd.R_drew)); exact Kd.R_mono HO_6.out (fun _ hk => ⟨hk.1.1, ⟨hk.2, ⟨hk.1.2.1, ⟨hk.1.2.2.1, hk.1.2.2.2⟩⟩⟩⟩)), (zB BK278.out), (zB BK279.out), (by repeat first | with_reducible exact HB.out | apply zS | refine below_set ?_ GE278.out | refine below_set ?_ GE279.out | exact HB.out)⟩)
                        · skip
                          refine Kd.R_lit_step k23 _ 23 ?hg (N := 57) ?hd (xs := ([(⟨1, 1, (⟨#[]⟩ : ByteArray)⟩ : S23)] : List (S23))) (inner := [.int .i64 1, .int .i64 1, .string (⟨#[]⟩ : ByteArray)]) (ok := fun _ => True) (okp := fun _ => True) ?hr ?hp (fun _ hk => hk) trivial (Below.refl _ _) (Nat.le_refl _) (by simp) ?_; (case hd => rfl); (case hg => rfl); (case hr => first | (go_simp; done) | (go_simp; rfl)); (case hp => exact (Reps.c3 (show Kd.M k23 _ _ _ (⟨1, 1, (⟨#[]⟩ : ByteArray)⟩ : S23) [.int .i64 1, .int .i64 1, .string (⟨#[]⟩ : ByteArray)] from (k23_mkM _ _ _ (⟨1, 1, (⟨#[]⟩ : ByteArray)⟩ : S23) )) (Reps.none _ _)))
                          intro v303 w107 ho108 hb hg_ hnew_
                          clear hg_ hnew_
                          (first | rw [← Ny302.out] at ho108 | (simp only [Int.reduceToNat] at ho108; rw [← Ny302.out] at ho108))
                          have n0_ := Aside0.mk (Kd.R_elder' (by (with_reducible repeat (first | apply Kd.R_alloc | apply Kd.R_drewN | apply Kd.R_drew)); exact HO_5.out) (Kd.R_base ho108) hb)
                          have n1_ := Aside0.mk (Kd.R_elder' (by (with_reducible repeat (first | apply Kd.R_alloc | apply Kd.R_drewN | apply Kd.R_drew)); exact HO_6.out) (Kd.R_base ho108) hb)
                          have n2_ := Aside0.mk (Kd.R_lower (Kd.R_newB (Kd.R_newB (Kd.R_new' (Kd.R_new' ho108 (Kd.R_lt (by (with_reducible repeat (first | apply Kd.R_alloc | apply Kd.R_drewN | apply Kd.R_drew)); exact HO_5.out))) (Kd.R_lt (by (with_reducible repeat (first | apply Kd.R_alloc | apply Kd.R_drewN | apply Kd.R_drew)); exact HO_6.out))) (g := gb278) (o := .cells #[.int .i64 1, .int .i64 0, .string (⟨#[]⟩ : ByteArray)] 23 (0, 0)) (zB BK278.out)) (g := gb279) (o := .cells #[.int .i64 1, .int .i64 1, .string (⟨#[]⟩ : ByteArray)] 23 (0, 0)) (zB BK279.out)) (below_size (by repeat first | with_reducible exact HB.out | apply zS | refine below_set ?_ GE278.out | refine below_set ?_ GE279.out | exact HB.out)))
                          have n3_ := Aside0.mk (blk_below (g := gb278) (o := .cells #[.int .i64 1, .int .i64 0, .string (⟨#[]⟩ : ByteArray)] 23 (0, 0)) (zB BK278.out) hb)
                          have n4_ := Aside0.mk (blk_below (g := gb279) (o := .cells #[.int .i64 1, .int .i64 1, .string (⟨#[]⟩ : ByteArray)] 23 (0, 0)) (zB BK279.out) hb)
                          have n5_ := Aside0.mk (below_step (by repeat first | with_reducible exact HB.out | apply zS | refine below_set ?_ GE278.out | refine below_set ?_ GE279.out | exact HB.out) hb)
                          clear HO_5
                          clear HO_6
                          clear BK278
                          clear BK279
                          clear HB
                          have HO_5 := n0_
                          have HO_6 := n1_
                          have HO304 := n2_
                          have BK278 := n3_
                          have BK279 := n4_
                          have HB := n5_
                          clear n0_ n1_ n2_ n3_ n4_ n5_
                          clear hb ho108
                          refine hK.out _ _ ⟨(blk_cell BK278.out 0).trans rfl, (blk_cell BK278.out 1).trans rfl, (blk_cell BK278.out 2).trans rfl, (blk_cell BK279.out 0).trans rfl, (blk_cell BK279.out 1).trans rfl, (blk_cell BK279.out 2).trans rfl⟩ (fun hHeld => ?_)
                          clear hK K
                          refine norm_ (a' := ?_) ?_ ?_
                          rotate_left
                          · show Act.put _ (some 57) _ = _
                            simp only [Act.put, List.setIfInBounds_toArray, List.set_cons_zero, List.set_cons_succ, i64_w, i32_w]
                            rfl
                          refine one_ (i := 2) (N := some 53) #[true, true, true, false, true, true, true, false, false, false] rfl rfl (one_of HT_.out (by kernel_rfl)) (by decide) (fun K hK => ?_)
                          refine Kd.R_lit_step k23 _ 23 ?hg (N := 53) ?hd (xs := ([(⟨1, 0, (⟨#[]⟩ : ByteArray)⟩ : S23)] : List (S23))) (inner := [.int .i64 1, .int .i64 0, .string (⟨#[]⟩ : ByteArray)]) (ok := fun _ => True) (okp := fun _ => True) ?hr ?hp (fun _ hk => hk) trivial (Below.refl _ _) (Nat.le_refl _) (by simp) ?_; (case hd => rfl); (case hg => rfl); (case hr => first | (go_simp; done) | (go_simp; rfl)); (case hp => exact (Reps.c3 (show Kd.M k23 _ _ _ (⟨1, 0, (⟨#[]⟩ : ByteArray)⟩ : S23) [.int .i64 1, .int .i64 0, .string (⟨#[]⟩ : ByteArray)] from (k23_mkM _ _ _ (⟨1, 0, (⟨#[]⟩ : ByteArray)⟩ : S23) )) (Reps.none _ _)))
                          intro v297 w109 ho110 hb hg_ hnew_
                          clear hg_ hnew_
                          (first | rw [← Ny296.out] at ho110 | (simp only [Int.reduceToNat] at ho110; rw [← Ny296.out] at ho110))
                          have n0_ := Aside0.mk (Kd.R_elder' (by (with_reducible repeat (first | apply Kd.R_alloc | apply Kd.R_drewN | apply Kd.R_drew)); exact HO_5.out) (Kd.R_base ho110) hb)
                          have n1_ := Aside0.mk (Kd.R_elder' (by (with_reducible repeat (first | apply Kd.R_alloc | apply Kd.R_drewN | apply Kd.R_drew)); exact HO_6.out) (Kd.R_base ho110) hb)
                          have n2_ := Aside0.mk (Kd.R_elder' (by (with_reducible repeat (first | apply Kd.R_alloc | apply Kd.R_drewN | apply Kd.R_drew)); exact HO304.out) (Kd.R_base ho110) hb)
                          have n3_ := Aside0.mk (Kd.R_lower (Kd.R_newB (Kd.R_newB (Kd.R_new' (Kd.R_new' (Kd.R_new' ho110 (Kd.R_lt (by (with_reducible repeat (first | apply Kd.R_alloc | apply Kd.R_drewN | apply Kd.R_drew)); exact HO_5.out))) (Kd.R_lt (by (with_reducible repeat (first | apply Kd.R_alloc | apply Kd.R_drewN | apply Kd.R_drew)); exact HO_6.out))) (Kd.R_lt (by (with_reducible repeat (first | apply Kd.R_alloc | apply Kd.R_drewN | apply Kd.R_drew)); exact HO304.out))) (g := gb278) (o := .cells #[.int .i64 1, .int .i64 0, .string (⟨#[]⟩ : ByteArray)] 23 (0, 0)) (zB BK278.out)) (g := gb279) (o := .cells #[.int .i64 1, .int .i64 1, .string (⟨#[]⟩ : ByteArray)] 23 (0, 0)) (zB BK279.out)) (below_size (by repeat first | with_reducible exact HB.out | apply zS | refine below_set ?_ GE278.out | refine below_set ?_ GE279.out | exact HB.out)))
                          have n4_ := Aside0.mk (blk_below (g := gb278) (o := .cells #[.int .i64 1, .int .i64 0, .string (⟨#[]⟩ : ByteArray)] 23 (0, 0)) (zB BK278.out) hb)
                          have n5_ := Aside0.mk (blk_below (g := gb279) (o := .cells #[.int .i64 1, .int .i64 1, .string (⟨#[]⟩ : ByteArray)] 23 (0, 0)) (zB BK279.out) hb)
                          have n6_ := Aside0.mk (below_step (by repeat first | with_reducible exact HB.out | apply zS | refine below_set ?_ GE278.out | refine below_set ?_ GE279.out | exact HB.out) hb)
                          clear HO_5
                          clear HO_6
                          clear HO304
                          clear BK278
                          clear BK279
                          clear HB
                          have HO_5 := n0_
                          have HO_6 := n1_
                          have HO304 := n2_
                          have HO298 := n3_
                          have BK278 := n4_
                          have BK279 := n5_
                          have HB := n6_
                          clear n0_ n1_ n2_ n3_ n4_ n5_ n6_
                          clear hb ho110
                          obtain ⟨Ao112, co112, eo112⟩ := Kd.R_slice HO298.out
                          (first | subst eo112 | (injection eo112 with f1_ f2_ f3_; have f4_ := f1_.symm; have f5_ := f3_.symm; clear f1_ f2_ f3_; subst f4_; subst f5_))
                          refine hK.out _ _ ⟨(blk_cell BK278.out 0).trans rfl, (blk_cell BK278.out 1).trans rfl, (blk_cell BK278.out 2).trans rfl, (blk_cell BK279.out 0).trans rfl, (blk_cell BK279.out 1).trans rfl, (blk_cell BK279.out 2).trans rfl⟩ (fun hHeld => ?_)
                          clear hK K
                          refine norm_ (a' := ?_) ?_ ?_
                          rotate_left
                          · show Act.put _ (some 53) _ = _
                            simp only [Act.put, List.setIfInBounds_toArray, List.set_cons_zero, List.set_cons_succ, i64_w, i32_w]
                            rfl
                          refine one_ (i := 3) (N := some 54) #[true, true, true, true, true, true, true, false, false, false] rfl rfl (one_of HT_.out (by kernel_rfl)) (by decide) (fun K hK => ?_)
                          refine Kd.R_append_rows_step k23 (w0 := w) w.heap.size (by rfl) (.tmp 51) (.tmp 53) 24 23 (.agg #[(.int .i64 0), (.int .i64 0), (.string ⟨#[]⟩)]) 32 rfl Tryd.underlying24 info23 rfl (by decide) (by omega) (.slice Ao103 x5_2.length co103) x5_2 y296 _ _ _ (fun k_ => some k_ ≠ (.slice Ao104 x6_2.length co104 : Value).ownBlock ∧ some k_ ≠ (v303 : Value).ownBlock ∧ some k_ ≠ (.slice Ao112 y296.length co112 : Value).ownBlock ∧ k_ ≠ gb278 ∧ k_ ≠ gb279) (fun _ => False) rfl rfl ?aO ?aR (fun _ _ h => h) (fun _ h => h.elim) ?aF ?aB ?aS ?aL ?_
                          (case aR => repeat (first | exact (Kd.R_reads' HO298.out).2.2 | (with_reducible refine Kd.C_alloc ?_ _) | (with_reducible refine Kd.C_drewN ?_ _) | (with_reducible refine Kd.C_drew ?_)))
                          (case aB => exact (by repeat first | with_reducible exact HB.out | apply zS | refine below_set ?_ GE278.out | refine below_set ?_ GE279.out | exact HB.out))
                          (case aF => exact (fun k_ hk => ⟨Kd.fresh' (Kd.R_lt (by (with_reducible repeat (first | apply Kd.R_alloc | apply Kd.R_drewN | apply Kd.R_drew)); exact HO_6.out)) k_ hk, Kd.fresh' (Kd.R_lt (by (with_reducible repeat (first | apply Kd.R_alloc | apply Kd.R_drewN | apply Kd.R_drew)); exact HO304.out)) k_ hk, Kd.fresh' (Kd.R_lt (by (with_reducible repeat (first | apply Kd.R_alloc | apply Kd.R_drewN | apply Kd.R_drew)); exact HO298.out)) k_ hk, Kd.freshB (g := gb278) (o := .cells #[.int .i64 1, .int .i64 0, .string (⟨#[]⟩ : ByteArray)] 23 (0, 0)) (zB BK278.out) k_ hk, Kd.freshB (g := gb279) (o := .cells #[.int .i64 1, .int .i64 1, .string (⟨#[]⟩ : ByteArray)] 23 (0, 0)) (zB BK279.out) k_ hk⟩))
                          (case aO => exact (by (with_reducible repeat (first | apply Kd.R_alloc | apply Kd.R_drewN | apply Kd.R_drew)); exact Kd.R_mono HO_5.out (fun _ hk => ⟨hk.1.1.1, ⟨hk.1.2, ⟨hk.2, ⟨hk.1.1.2.1, hk.1.1.2.2⟩⟩⟩⟩)))
                          (case aS => exact (below_size (by repeat first | with_reducible exact HB.out | apply zS | refine below_set ?_ GE278.out | refine below_set ?_ GE279.out | exact HB.out)))
                          (case aL => have := LMc94.out; omega)
                          intro v300 w111 ho hb hg hat
                          rw [← Ny299.out] at ho
                          have n0_ := Aside0.mk (Kd.R_after (ok := (fun k_ => some k_ ≠ (v303 : Value).ownBlock ∧ some k_ ≠ (.slice Ao112 y296.length co112 : Value).ownBlock ∧ k_ ≠ gb278 ∧ k_ ≠ gb279)) (by (with_reducible repeat (first | apply Kd.R_alloc | apply Kd.R_drewN | apply Kd.R_drew)); exact Kd.R_mono HO_6.out (fun _ hk => ⟨⟨hk.1.2, ⟨hk.2, ⟨hk.1.1.2.1, hk.1.1.2.2⟩⟩⟩, hk.1.1.1⟩)) hg hat)
                          have n1_ := Aside0.mk (blk_grown (g := gb278) (o := .cells #[.int .i64 1, .int .i64 0, .string (⟨#[]⟩ : ByteArray)] 23 (0, 0)) (zB BK278.out) hg (Kd.R_away HO_5.out (fun _ hk => hk.1.1.2.1)))
                          have n2_ := Aside0.mk (blk_grown (g := gb279) (o := .cells #[.int .i64 1, .int .i64 1, .string (⟨#[]⟩ : ByteArray)] 23 (0, 0)) (zB BK279.out) hg (Kd.R_away HO_5.out (fun _ hk => hk.1.1.2.2)))
                          have n3_ := Aside0.mk (Kd.R_after (ok := (fun k_ => some k_ ≠ (.slice Ao104 x6_2.length co104 : Value).ownBlock ∧ some k_ ≠ (.slice Ao112 y296.length co112 : Value).ownBlock ∧ k_ ≠ gb278 ∧ k_ ≠ gb279)) (by (with_reducible repeat (first | apply Kd.R_alloc | apply Kd.R_drewN | apply Kd.R_drew)); exact Kd.R_mono HO304.out (fun _ hk => ⟨⟨hk.1.1.1.2, ⟨hk.2, ⟨hk.1.1.2, hk.1.2⟩⟩⟩, hk.1.1.1.1.2⟩)) hg hat)
                          have n4_ := Aside0.mk (Kd.R_after (ok := (fun k_ => some k_ ≠ (.slice Ao104 x6_2.length co104 : Value).ownBlock ∧ some k_ ≠ (v303 : Value).ownBlock ∧ k_ ≠ gb278 ∧ k_ ≠ gb279)) (by (with_reducible repeat (first | apply Kd.R_alloc | apply Kd.R_drewN | apply Kd.R_drew)); exact Kd.R_mono HO298.out (fun _ hk => ⟨⟨hk.1.1.1.2, ⟨hk.1.1.2, ⟨hk.1.2, hk.2⟩⟩⟩, hk.1.1.1.1.2⟩)) hg hat)
                          have n5_ := Aside0.mk (hb)
                          have n6_ := Aside0.mk (ho)
                          clear HO_6
                          clear BK278
                          clear BK279
                          clear HO304
                          clear HO298
                          clear HB
                          clear HO_5
                          have HO_6 := n0_
                          have BK278 := n1_
                          have BK279 := n2_
                          have HO304 := n3_
                          have HO298 := n4_
                          have HB := n5_
                          have HO301 := n6_
                          clear n0_ n1_ n2_ n3_ n4_ n5_ n6_
                          clear ho hb hg hat
                          refine hK.out _ _ ⟨(blk_cell BK278.out 0).trans rfl, (blk_cell BK278.out 1).trans rfl, (blk_cell BK278.out 2).trans rfl, (blk_cell BK279.out 0).trans rfl, (blk_cell BK279.out 1).trans rfl, (blk_cell BK279.out 2).trans rfl⟩ (fun hHeld => ?_)
                          clear hK K
                          refine norm_ (a' := ?_) ?_ ?_
                          rotate_left
                          · show Act.put _ (some 54) _ = _
                            simp only [Act.put, List.setIfInBounds_toArray, List.set_cons_zero, List.set_cons_succ, i64_w, i32_w]
                            rfl
                          exact norm_ (by simp only [putAll, Act.put, List.setIfInBounds_toArray, List.set_cons_zero, List.set_cons_succ]) (hCont (.slice Ao112 y296.length co112, v300, v303) _ ⟨hHeld, (by (with_reducible repeat (first | apply Kd.R_alloc | apply Kd.R_drewN | apply Kd.R_drew)); exact Kd.R_mono HO298.out (fun _ hk => ⟨hk.2, ⟨hk.1.2.1, ⟨hk.1.1, ⟨hk.1.2.2.1, hk.1.2.2.2⟩⟩⟩⟩)), (by (with_reducible repeat (first | apply Kd.R_alloc | apply Kd.R_drewN | apply Kd.R_drew)); exact Kd.R_mono HO301.out (fun _ hk => ⟨hk.2.2.1, ⟨hk.2.1, ⟨hk.1, ⟨hk.2.2.2.1, hk.2.2.2.2⟩⟩⟩⟩)), (by (with_reducible repeat (first | apply Kd.R_alloc | apply Kd.R_drewN | apply Kd.R_drew)); exact Kd.R_mono HO304.out (fun _ hk => ⟨hk.1.2.1, ⟨hk.2, ⟨hk.1.1, ⟨hk.1.2.2.1, hk.1.2.2.2⟩⟩⟩⟩)), (by (with_reducible repeat (first | apply Kd.R_alloc | apply Kd.R_drewN | apply Kd.R_drew)); exact Kd.R_mono HO_6.out (fun _ hk => ⟨hk.1.2.1, ⟨hk.2, ⟨hk.1.1, ⟨hk.1.2.2.1, hk.1.2.2.2⟩⟩⟩⟩)), (zB BK278.out), (zB BK279.out), (by repeat first | with_reducible exact HB.out | apply zS | refine below_set ?_ GE278.out | refine below_set ?_ GE279.out | exact HB.out)⟩)
                      rintro ⟨v297, v300, v303⟩ w113 ⟨hS_, h0_, h1_, h2_, h3_, h4_, h5_, h6_⟩
                      have n0_ : Aside0 (Kd.R k23 23 w113 w.heap.size (fun k_ => some k_ ≠ (v300 : Value).ownBlock ∧ some k_ ≠ (v303 : Value).ownBlock ∧ some k_ ≠ (.slice Ao104 x6_2.length co104 : Value).ownBlock ∧ k_ ≠ gb278 ∧ k_ ≠ gb279) v297 y296) := ⟨h0_⟩
                      have n1_ : Aside0 (Kd.R k23 23 w113 w.heap.size (fun k_ => some k_ ≠ (v297 : Value).ownBlock ∧ some k_ ≠ (v303 : Value).ownBlock ∧ some k_ ≠ (.slice Ao104 x6_2.length co104 : Value).ownBlock ∧ k_ ≠ gb278 ∧ k_ ≠ gb279) v300 y299) := ⟨h1_⟩
                      have n2_ : Aside0 (Kd.R k23 23 w113 w.heap.size (fun k_ => some k_ ≠ (v297 : Value).ownBlock ∧ some k_ ≠ (v300 : Value).ownBlock ∧ some k_ ≠ (.slice Ao104 x6_2.length co104 : Value).ownBlock ∧ k_ ≠ gb278 ∧ k_ ≠ gb279) v303 y302) := ⟨h2_⟩
                      have n3_ : Aside0 (Kd.R k23 23 w113 w.heap.size (fun k_ => some k_ ≠ (v297 : Value).ownBlock ∧ some k_ ≠ (v300 : Value).ownBlock ∧ some k_ ≠ (v303 : Value).ownBlock ∧ k_ ≠ gb278 ∧ k_ ≠ gb279) (.slice Ao104 x6_2.length co104) x6_2) := ⟨h3_⟩
                      have n4_ : Aside0 (w113.heap[gb278]? = some (.cells #[.int .i64 1, .int .i64 0, .string (⟨#[]⟩ : ByteArray)] 23 (0, 0))) := ⟨h4_⟩
                      have n5_ : Aside0 (w113.heap[gb279]? = some (.cells #[.int .i64 1, .int .i64 1, .string (⟨#[]⟩ : ByteArray)] 23 (0, 0))) := ⟨h5_⟩
                      have n6_ : Aside0 (Below w.heap.size w w113) := ⟨h6_⟩
                      clear HO_5
                      clear HO_6
                      clear BK278
                      clear BK279
                      clear HB
                      clear h0_ h1_ h2_ h3_ h4_ h5_ h6_
                      have HO298 := n0_
                      have HO301 := n1_
                      have HO304 := n2_
                      have HO_6 := n3_
                      have BK278 := n4_
                      have BK279 := n5_
                      have HB := n6_
                      clear n0_ n1_ n2_ n3_ n4_ n5_ n6_
                      have hHeld : w113.cell? ⟨gb278, 0, none⟩ = some (.int .i64 1) ∧ w113.cell? ⟨gb278, 1, none⟩ = some (.int .i64 0) ∧ w113.cell? ⟨gb278, 2, none⟩ = some (.string (⟨#[]⟩ : ByteArray)) ∧ w113.cell? ⟨gb279, 0, none⟩ = some (.int .i64 1) ∧ w113.cell? ⟨gb279, 1, none⟩ = some (.int .i64 1) ∧ w113.cell? ⟨gb279, 2, none⟩ = some (.string (⟨#[]⟩ : ByteArray)) := hS_
                      obtain ⟨Ao115, co115, eo115⟩ := Kd.R_slice HO304.out
                      (first | subst eo115 | (injection eo115 with f1_ f2_ f3_; have f4_ := f1_.symm; have f5_ := f3_.symm; clear f1_ f2_ f3_; subst f4_; subst f5_))
                      refine norm_ (a' := ?_) ?_ ?_
                      rotate_left
                      · simp only [putAll, Act.put, List.setIfInBounds_toArray, List.set_cons_zero, List.set_cons_succ]
                        rfl
                      refine one_ (i := 7) (N := some 58) #[true, true, true, true, true, true, true, true, false, false] rfl rfl (one_of HT_.out (by kernel_rfl)) (by decide) (fun K hK => ?_)
                      refine Kd.R_append_rows_step k23 (w0 := w) w.heap.size (by rfl) (.tmp 55) (.tmp 57) 24 23 (.agg #[(.int .i64 0), (.int .i64 0), (.string ⟨#[]⟩)]) 32 rfl Tryd.underlying24 info23 rfl (by decide) (by omega) (.slice Ao104 x6_2.length co104) x6_2 y302 _ _ _ (fun k_ => some k_ ≠ (v297 : Value).ownBlock ∧ some k_ ≠ (v300 : Value).ownBlock ∧ some k_ ≠ (.slice Ao115 y302.length co115 : Value).ownBlock ∧ k_ ≠ gb278 ∧ k_ ≠ gb279) (fun _ => False) rfl rfl ?aO ?aR (fun _ _ h => h) (fun _ h => h.elim) ?aF ?aB ?aS ?aL ?_
                      (case aR => repeat (first | exact (Kd.R_reads' HO304.out).2.2 | (with_reducible refine Kd.C_alloc ?_ _) | (with_reducible refine Kd.C_drewN ?_ _) | (with_reducible refine Kd.C_drew ?_)))
                      (case aB => exact (by repeat first | with_reducible exact HB.out | apply zS | refine below_set ?_ GE278.out | refine below_set ?_ GE279.out | exact HB.out))
                      (case aF => exact (fun k_ hk => ⟨Kd.fresh' (Kd.R_lt (by (with_reducible repeat (first | apply Kd.R_alloc | apply Kd.R_drewN | apply Kd.R_drew)); exact HO298.out)) k_ hk, Kd.fresh' (Kd.R_lt (by (with_reducible repeat (first | apply Kd.R_alloc | apply Kd.R_drewN | apply Kd.R_drew)); exact HO301.out)) k_ hk, Kd.fresh' (Kd.R_lt (by (with_reducible repeat (first | apply Kd.R_alloc | apply Kd.R_drewN | apply Kd.R_drew)); exact HO304.out)) k_ hk, Kd.freshB (g := gb278) (o := .cells #[.int .i64 1, .int .i64 0, .string (⟨#[]⟩ : ByteArray)] 23 (0, 0)) (zB BK278.out) k_ hk, Kd.freshB (g := gb279) (o := .cells #[.int .i64 1, .int .i64 1, .string (⟨#[]⟩ : ByteArray)] 23 (0, 0)) (zB BK279.out) k_ hk⟩))
                      (case aO => exact (by (with_reducible repeat (first | apply Kd.R_alloc | apply Kd.R_drewN | apply Kd.R_drew)); exact HO_6.out))
                      (case aS => exact (below_size (by repeat first | with_reducible exact HB.out | apply zS | refine below_set ?_ GE278.out | refine below_set ?_ GE279.out | exact HB.out)))
                      (case aL => have := LMc95.out; omega)
                      intro v306 w114 ho hb hg hat
                      rw [← Ny305.out] at ho
                      have n0_ := Aside0.mk (blk_grown (g := gb278) (o := .cells #[.int .i64 1, .int .i64 0, .string (⟨#[]⟩ : ByteArray)] 23 (0, 0)) (zB BK278.out) hg (Kd.R_away HO_6.out (fun _ hk => hk.2.2.2.1)))
                      have n1_ := Aside0.mk (blk_grown (g := gb279) (o := .cells #[.int .i64 1, .int .i64 1, .string (⟨#[]⟩ : ByteArray)] 23 (0, 0)) (zB BK279.out) hg (Kd.R_away HO_6.out (fun _ hk => hk.2.2.2.2)))
                      have n2_ := Aside0.mk (Kd.R_after (ok := (fun k_ => some k_ ≠ (v300 : Value).ownBlock ∧ some k_ ≠ (.slice Ao115 y302.length co115 : Value).ownBlock ∧ k_ ≠ gb278 ∧ k_ ≠ gb279)) (by (with_reducible repeat (first | apply Kd.R_alloc | apply Kd.R_drewN | apply Kd.R_drew)); exact Kd.R_mono HO298.out (fun _ hk => ⟨⟨hk.1, ⟨hk.2.1, ⟨hk.2.2.2.1, hk.2.2.2.2⟩⟩⟩, hk.2.2.1⟩)) hg hat)
                      have n3_ := Aside0.mk (Kd.R_after (ok := (fun k_ => some k_ ≠ (v297 : Value).ownBlock ∧ some k_ ≠ (.slice Ao115 y302.length co115 : Value).ownBlock ∧ k_ ≠ gb278 ∧ k_ ≠ gb279)) (by (with_reducible repeat (first | apply Kd.R_alloc | apply Kd.R_drewN | apply Kd.R_drew)); exact Kd.R_mono HO301.out (fun _ hk => ⟨⟨hk.1, ⟨hk.2.1, ⟨hk.2.2.2.1, hk.2.2.2.2⟩⟩⟩, hk.2.2.1⟩)) hg hat)
                      have n4_ := Aside0.mk (Kd.R_after (ok := (fun k_ => some k_ ≠ (v297 : Value).ownBlock ∧ some k_ ≠ (v300 : Value).ownBlock ∧ k_ ≠ gb278 ∧ k_ ≠ gb279)) (by (with_reducible repeat (first | apply Kd.R_alloc | apply Kd.R_drewN | apply Kd.R_drew)); exact Kd.R_mono HO304.out (fun _ hk => ⟨⟨hk.1, ⟨hk.2.1, ⟨hk.2.2.2.1, hk.2.2.2.2⟩⟩⟩, hk.2.2.1⟩)) hg hat)
                      have n5_ := Aside0.mk (hb)
                      have n6_ := Aside0.mk (ho)
                      clear BK278
                      clear BK279
                      clear HO298
                      clear HO301
                      clear HO304
                      clear HB
                      clear HO_6
                      have BK278 := n0_
                      have BK279 := n1_
                      have HO298 := n2_
                      have HO301 := n3_
                      have HO304 := n4_
                      have HB := n5_
                      have HO307 := n6_
                      clear n0_ n1_ n2_ n3_ n4_ n5_ n6_
                      clear ho hb hg hat
                      refine hK.out _ _ ⟨(blk_cell BK278.out 0).trans rfl, (blk_cell BK278.out 1).trans rfl, (blk_cell BK278.out 2).trans rfl, (blk_cell BK279.out 0).trans rfl, (blk_cell BK279.out 1).trans rfl, (blk_cell BK279.out 2).trans rfl⟩ (fun hHeld => ?_)
                      clear hK K
                      refine norm_ (a' := ?_) ?_ ?_
                      rotate_left
                      · show Act.put _ (some 58) _ = _
                        simp only [Act.put, List.setIfInBounds_toArray, List.set_cons_zero, List.set_cons_succ, i64_w, i32_w]
                        rfl
                      refine pure_ (i := 8) (N := some 5) (v := ?_) (a' := ?_) #[true, true, true, true, true, true, true, true, true, false] rfl rfl (any_of HT_.out (by kernel_rfl)) (fun _ _ _ h => h) (Or.inl ⟨by rfl, ?_⟩) ?_ ?_
                      rotate_left
                      · intro w'
                        go_simp
                        with_reducible rfl
                      rotate_left
                      · simp only [Act.put, List.setIfInBounds_toArray, List.set_cons_zero, List.set_cons_succ, i64_w, i32_w]
                        rfl
                      refine pure_ (i := 9) (N := some 6) (v := ?_) (a' := ?_) #[true, true, true, true, true, true, true, true, true, true] rfl rfl (any_of HT_.out (by kernel_rfl)) (fun _ _ _ h => h) (Or.inl ⟨by rfl, ?_⟩) ?_ ?_
                      rotate_left
                      · intro w'
                        go_simp
                        with_reducible rfl
                      rotate_left
                      · simp only [Act.put, List.setIfInBounds_toArray, List.set_cons_zero, List.set_cons_succ, i64_w, i32_w]
                        rfl
                      refine done_ (done_of HT_.out (by kernel_rfl)) ?_
                      try go_wp2
                      have n0_ := Aside0.mk (Kd.R_drew HO298.out)
                      have n1_ := Aside0.mk (Kd.R_drew HO301.out)
                      have n2_ := Aside0.mk (Kd.R_drew HO304.out)
                      have n3_ := Aside0.mk (Kd.R_drew HO307.out)
                      have n4_ := Aside0.mk (blk_drew BK278.out)
                      have n5_ := Aside0.mk (blk_drew BK279.out)
                      have n6_ := Aside0.mk (below_drew1 HB.out)
                      clear HO298
                      clear HO301
                      clear HO304
                      clear HO307
                      clear BK278
                      clear BK279
                      clear HB
                      have HO298 := n0_
                      have HO301 := n1_
                      have HO304 := n2_
                      have HO307 := n3_
                      have BK278 := n4_
                      have BK279 := n5_
                      have HB := n6_
                      clear n0_ n1_ n2_ n3_ n4_ n5_ n6_
                      have p308 : 0 ≤ (x10_2 : Int) := of_decide_eq_true (by first | (with_reducible assumption) | assumption)
                      have q308 : x10_2 < (l0.length : Int) := of_decide_eq_true (by first | (with_reducible assumption) | assumption)
                      obtain ⟨ad308, e308, hx308_0⟩ := Kd.at_bool HR0.out x10_2 p308 q308
                      have hw308_0 := hx308_0
                      (try rw [← Nbq11.out] at hx308_0)
                      obtain rfl : ad280 = ad308 := (by injection e308)
                      replace hx308_0 := (HB.out.cell (World.block_lt_of_cell? w _ hx308_0)).trans hx308_0
                      replace p308 := eq_true p308
                      replace q308 := eq_true q308
                      refine start_ (n := 16) (S := fun w' => w'.cell? (ad280.add (x10_2).toNat) = some (.bool (false))) (ds := []) #[false, false, false, false, false, false, false, false, false, false, false, false, false, false, false, false] (by kernel_rfl) rfl rfl hx308_0 (fun hHeld => ?_); refine with_tabW pannierlaw10_FoldTruths.tab12 pannierlaw10_FoldTruths.bits12 (fun HT_ HW_ => ?_)
                      generalize w114.drew = w116 at HO298 HO301 HO304 HO307 BK278 BK279 HB hx308_0 hHeld ⊢
                      cases x8_2 <;> cases x9_2
                      all_goals
                        (refine pure_ (i := 0) (N := some 59) (v := ?_) (a' := ?_) #[true, false, false, false, false, false, false, false, false, false, false, false, false, false, false, false] rfl rfl (any_of HT_.out (by kernel_rfl)) (fun _ _ _ h => h) (Or.inl ⟨by rfl, ?_⟩) ?_ ?_; rotate_left; (focus (intro w'; go_simp; with_reducible rfl)); rotate_left; (focus (simp only [Act.put, List.setIfInBounds_toArray, List.set_cons_zero, List.set_cons_succ, i64_w, i32_w]; rfl)))
                        (refine pure_ (i := 1) (N := some 60) (v := ?_) (a' := ?_) #[true, true, false, false, false, false, false, false, false, false, false, false, false, false, false, false] rfl rfl (any_of HT_.out (by kernel_rfl)) (fun _ _ _ h => h) (Or.inl ⟨by rfl, ?_⟩) ?_ ?_; rotate_left; (focus (intro w'; go_simp; with_reducible rfl)); rotate_left; (focus (simp only [Act.put, List.setIfInBounds_toArray, List.set_cons_zero, List.set_cons_succ, i64_w, i32_w]; rfl)))
                        first | (refine pure_ (i := 2) (N := some 61) (v := undef) (a' := ?_) #[true, true, true, false, false, false, false, false, false, false, false, false, false, false, false, false] rfl rfl (any_of HT_.out (by kernel_rfl)) (fun _ _ _ h => h) (Or.inr ⟨by rfl, rfl⟩) ?_ ?_; rotate_left; (focus (simp only [Act.put, List.setIfInBounds_toArray, List.set_cons_zero, List.set_cons_succ, i64_w, i32_w]; rfl))) | (refine pure_ (i := 2) (N := some 61) (v := ?_) (a' := ?_) #[true, true, true, false, false, false, false, false, false, false, false, false, false, false, false, false] rfl rfl (any_of HT_.out (by kernel_rfl)) (fun _ _ _ h => h) (Or.inl ⟨by rfl, ?_⟩) ?_ ?_; rotate_left; (focus (intro w'; go_simp; with_reducible rfl)); rotate_left; (focus (simp only [Act.put, List.setIfInBounds_toArray, List.set_cons_zero, List.set_cons_succ, i64_w, i32_w]; rfl)))
                        first | (refine pure_ (i := 3) (N := some 62) (v := undef) (a' := ?_) #[true, true, true, true, false, false, false, false, false, false, false, false, false, false, false, false] rfl rfl (any_of HT_.out (by kernel_rfl)) (fun _ _ _ h => h) (Or.inr ⟨by rfl, rfl⟩) ?_ ?_; rotate_left; (focus (simp only [Act.put, List.setIfInBounds_toArray, List.set_cons_zero, List.set_cons_succ, i64_w, i32_w]; rfl))) | (refine pure_ (i := 3) (N := some 62) (v := ?_) (a' := ?_) #[true, true, true, true, false, false, false, false, false, false, false, false, false, false, false, false] rfl rfl (any_of HT_.out (by kernel_rfl)) (fun _ _ _ h => h) (Or.inl ⟨by rfl, ?_⟩) ?_ ?_; rotate_left; (focus (intro w'; go_simp; with_reducible rfl)); rotate_left; (focus (simp only [Act.put, List.setIfInBounds_toArray, List.set_cons_zero, List.set_cons_succ, i64_w, i32_w]; rfl)))
                        first | (refine pure_ (i := 4) (N := some 63) (v := undef) (a' := ?_) #[true, true, true, true, true, false, false, false, false, false, false, false, false, false, false, false] rfl rfl (any_of HT_.out (by kernel_rfl)) (fun _ _ _ h => h) (Or.inr ⟨by rfl, rfl⟩) ?_ ?_; rotate_left; (focus (simp only [Act.put, List.setIfInBounds_toArray, List.set_cons_zero, List.set_cons_succ, i64_w, i32_w]; rfl))) | (refine pure_ (i := 4) (N := some 63) (v := ?_) (a' := ?_) #[true, true, true, true, true, false, false, false, false, false, false, false, false, false, false, false] rfl rfl (any_of HT_.out (by kernel_rfl)) (fun _ _ _ h => h) (Or.inl ⟨by rfl, ?_⟩) ?_ ?_; rotate_left; (focus (intro w'; go_simp; with_reducible rfl)); rotate_left; (focus (simp only [Act.put, List.setIfInBounds_toArray, List.set_cons_zero, List.set_cons_succ, i64_w, i32_w]; rfl)))
                        first | (refine pure_ (i := 5) (N := some 64) (v := undef) (a' := ?_) #[true, true, true, true, true, true, false, false, false, false, false, false, false, false, false, false] rfl rfl (any_of HT_.out (by kernel_rfl)) (fun _ _ _ h => h) (Or.inr ⟨by rfl, rfl⟩) ?_ ?_; rotate_left; (focus (simp only [Act.put, List.setIfInBounds_toArray, List.set_cons_zero, List.set_cons_succ, i64_w, i32_w]; rfl))) | (refine take_ (i := 5) (N := some 64) (v := ?_) (a' := ?_) #[true, true, true, true, true, true, false, false, false, false, false, false, false, false, false, false] rfl rfl (take_ofW HT_.out HW_.out (by kernel_rfl)) (fun _ _ _ h => h) (Or.inl ⟨by rfl, ?_⟩) hHeld ?_ ?_; rotate_left; (focus (intro w' s0; go_simp; with_reducible rfl)); rotate_left; (focus (simp only [Act.put, List.setIfInBounds_toArray, List.set_cons_zero, List.set_cons_succ, i64_w, i32_w]; rfl)))
                        (refine pure_ (i := 6) (N := some 65) (v := ?_) (a' := ?_) #[true, true, true, true, true, true, true, false, false, false, false, false, false, false, false, false] rfl rfl (any_of HT_.out (by kernel_rfl)) (fun _ _ _ h => h) (Or.inl ⟨by rfl, ?_⟩) ?_ ?_; rotate_left; (focus (intro w'; go_simp; with_reducible rfl)); rotate_left; (focus (simp only [Act.put, List.setIfInBounds_toArray, List.set_cons_zero, List.set_cons_succ, i64_w, i32_w]; rfl)))
                        (refine pure_ (i := 7) (N := some 66) (v := ?_) (a' := ?_) #[true, true, true, true, true, true, true, true, false, false, false, false, false, false, false, false] rfl rfl (any_of HT_.out (by kernel_rfl)) (fun _ _ _ h => h) (Or.inl ⟨by rfl, ?_⟩) ?_ ?_; rotate_left; (focus (intro w'; go_simp; with_reducible rfl)); rotate_left; (focus (simp only [Act.put, List.setIfInBounds_toArray, List.set_cons_zero, List.set_cons_succ, i64_w, i32_w]; rfl)))
                        (refine pure_ (i := 8) (N := some 67) (v := ?_) (a' := ?_) #[true, true, true, true, true, true, true, true, true, false, false, false, false, false, false, false] rfl rfl (any_of HT_.out (by kernel_rfl)) (fun _ _ _ h => h) (Or.inl ⟨by rfl, ?_⟩) ?_ ?_; rotate_left; (focus (intro w'; go_simp; with_reducible rfl)); rotate_left; (focus (simp only [Act.put, List.setIfInBounds_toArray, List.set_cons_zero, List.set_cons_succ, i64_w, i32_w]; rfl)))
                        first | (refine pure_ (i := 9) (N := some 68) (v := undef) (a' := ?_) #[true, true, true, true, true, true, true, true, true, true, false, false, false, false, false, false] rfl rfl (any_of HT_.out (by kernel_rfl)) (fun _ _ _ h => h) (Or.inr ⟨by rfl, rfl⟩) ?_ ?_; rotate_left; (focus (simp only [Act.put, List.setIfInBounds_toArray, List.set_cons_zero, List.set_cons_succ, i64_w, i32_w]; rfl))) | (refine pure_ (i := 9) (N := some 68) (v := ?_) (a' := ?_) #[true, true, true, true, true, true, true, true, true, true, false, false, false, false, false, false] rfl rfl (any_of HT_.out (by kernel_rfl)) (fun _ _ _ h => h) (Or.inl ⟨by rfl, ?_⟩) ?_ ?_; rotate_left; (focus (intro w'; go_simp; with_reducible rfl)); rotate_left; (focus (simp only [Act.put, List.setIfInBounds_toArray, List.set_cons_zero, List.set_cons_succ, i64_w, i32_w]; rfl)))
                        first | (refine pure_ (i := 10) (N := some 69) (v := undef) (a' := ?_) #[true, true, true, true, true, true, true, true, true, true, true, false, false, false, false, false] rfl rfl (any_of HT_.out (by kernel_rfl)) (fun _ _ _ h => h) (Or.inr ⟨by rfl, rfl⟩) ?_ ?_; rotate_left; (focus (simp only [Act.put, List.setIfInBounds_toArray, List.set_cons_zero, List.set_cons_succ, i64_w, i32_w]; rfl))) | (refine pure_ (i := 10) (N := some 69) (v := ?_) (a' := ?_) #[true, true, true, true, true, true, true, true, true, true, true, false, false, false, false, false] rfl rfl (any_of HT_.out (by kernel_rfl)) (fun _ _ _ h => h) (Or.inl ⟨by rfl, ?_⟩) ?_ ?_; rotate_left; (focus (intro w'; go_simp; with_reducible rfl)); rotate_left; (focus (simp only [Act.put, List.setIfInBounds_toArray, List.set_cons_zero, List.set_cons_succ, i64_w, i32_w]; rfl)))
                        first | (refine pure_ (i := 11) (N := some 70) (v := undef) (a' := ?_) #[true, true, true, true, true, true, true, true, true, true, true, true, false, false, false, false] rfl rfl (any_of HT_.out (by kernel_rfl)) (fun _ _ _ h => h) (Or.inr ⟨by rfl, rfl⟩) ?_ ?_; rotate_left; (focus (simp only [Act.put, List.setIfInBounds_toArray, List.set_cons_zero, List.set_cons_succ, i64_w, i32_w]; rfl))) | (refine pure_ (i := 11) (N := some 70) (v := ?_) (a' := ?_) #[true, true, true, true, true, true, true, true, true, true, true, true, false, false, false, false] rfl rfl (any_of HT_.out (by kernel_rfl)) (fun _ _ _ h => h) (Or.inl ⟨by rfl, ?_⟩) ?_ ?_; rotate_left; (focus (intro w'; go_simp; with_reducible rfl)); rotate_left; (focus (simp only [Act.put, List.setIfInBounds_toArray, List.set_cons_zero, List.set_cons_succ, i64_w, i32_w]; rfl)))
                        first | (refine pure_ (i := 12) (N := some 71) (v := undef) (a' := ?_) #[true, true, true, true, true, true, true, true, true, true, true, true, true, false, false, false] rfl rfl (any_of HT_.out (by kernel_rfl)) (fun _ _ _ h => h) (Or.inr ⟨by rfl, rfl⟩) ?_ ?_; rotate_left; (focus (simp only [Act.put, List.setIfInBounds_toArray, List.set_cons_zero, List.set_cons_succ, i64_w, i32_w]; rfl))) | (refine take_ (i := 12) (N := some 71) (v := ?_) (a' := ?_) #[true, true, true, true, true, true, true, true, true, true, true, true, true, false, false, false] rfl rfl (take_ofW HT_.out HW_.out (by kernel_rfl)) (fun _ _ _ h => h) (Or.inl ⟨by rfl, ?_⟩) hHeld ?_ ?_; rotate_left; (focus (intro w' s0; go_simp; with_reducible rfl)); rotate_left; (focus (simp only [Act.put, List.setIfInBounds_toArray, List.set_cons_zero, List.set_cons_succ, i64_w, i32_w]; rfl)))
                        (refine pure_ (i := 13) (N := some 72) (v := ?_) (a' := ?_) #[true, true, true, true, true, true, true, true, true, true, true, true, true, true, false, false] rfl rfl (any_of HT_.out (by kernel_rfl)) (fun _ _ _ h => h) (Or.inl ⟨by rfl, ?_⟩) ?_ ?_; rotate_left; (focus (intro w'; go_simp; with_reducible rfl)); rotate_left; (focus (simp only [Act.put, List.setIfInBounds_toArray, List.set_cons_zero, List.set_cons_succ, i64_w, i32_w]; rfl)))
                        (refine pure_ (i := 14) (N := some 8) (v := ?_) (a' := ?_) #[true, true, true, true, true, true, true, true, true, true, true, true, true, true, true, false] rfl rfl (any_of HT_.out (by kernel_rfl)) (fun _ _ _ h => h) (Or.inl ⟨by rfl, ?_⟩) ?_ ?_; rotate_left; (focus (intro w'; go_simp; with_reducible rfl)); rotate_left; (focus (simp only [Act.put, List.setIfInBounds_toArray, List.set_cons_zero, List.set_cons_succ, i64_w, i32_w]; rfl)))
                        (refine pure_ (i := 15) (N := some 9) (v := ?_) (a' := ?_) #[true, true, true, true, true, true, true, true, true, true, true, true, true, true, true, true] rfl rfl (any_of HT_.out (by kernel_rfl)) (fun _ _ _ h => h) (Or.inl ⟨by rfl, ?_⟩) ?_ ?_; rotate_left; (focus (intro w'; go_simp; with_reducible rfl)); rotate_left; (focus (simp only [Act.put, List.setIfInBounds_toArray, List.set_cons_zero, List.set_cons_succ, i64_w, i32_w]; rfl)))
                        refine done_ (done_of HT_.out (by kernel_rfl)) ?_
                        try go_wp2
                        go_roundg k2
                        case measure => have := HJ2.out; have := HK2.out; omega
                        case rel => exact ⟨(y299), (y305), _, _, (wrap64 (x10_2 + 1)), (by first | rfl | (simp; done) | (simp [*]; done)), (by first | rfl | (simp; done) | (simp [*]; done)), (by first | rfl | (simp; done) | (simp [*]; done)), H', ⟨by have := HJ2.out; have := HK2.out; omega⟩, ⟨by (with_reducible repeat (first | apply Kd.R_alloc | apply Kd.R_drewN | apply Kd.R_drew)); exact Kd.R_mono HO301.out (fun _ hk => hk.2)⟩, ⟨by (with_reducible repeat (first | apply Kd.R_alloc | apply Kd.R_drewN | apply Kd.R_drew)); exact Kd.R_mono HO307.out (fun _ hk => hk.2.1)⟩, ⟨by repeat first | with_reducible exact HB.out | apply zS | refine below_set ?_ GE278.out | refine below_set ?_ GE279.out | exact HB.out⟩⟩
                    · rw [if_neg c95] at H
                      exact absurd H (by simp)
                  · rw [if_neg c94] at H
                    exact absurd H (by simp)
              · rw [if_neg c10] at H
                exact absurd H (by simp)
            · rw [if_neg c9] at H
              have c9b0 : decide (x10_2 < (l0.length : Int)) = false := decide_eq_false c9
              clear c9
              have H' := Aside0.mk H
              clear H
              go_wp2
              go_loopg [7, 13, 14] k2 (fun kq v7 v13 v14 w' => ∃ (x7_3 : List (S23)) (x13_3 : ByteArray) (x14_3 : Int), v13 = .string x13_3 ∧ v14 = .int .i64 x14_3 ∧ Aside0 (pannierlaw10_FoldTruths.l1 kq l1 x5_2 x6_2 x7_3 x8_2 x9_2 x13_3 x14_3 = some r) ∧ Aside0 (kq ≤ k2) ∧ Aside0 (Kd.R k23 23 w' w.heap.size (fun k_ => some k_ ≠ (u6 : Value).ownBlock ∧ some k_ ≠ (v7 : Value).ownBlock) u5 x5_2) ∧ Aside0 (Kd.R k23 23 w' w.heap.size (fun k_ => some k_ ≠ (u5 : Value).ownBlock ∧ some k_ ≠ (v7 : Value).ownBlock) u6 x6_2) ∧ Aside0 (Kd.R k23 23 w' w.heap.size (fun k_ => some k_ ≠ (u5 : Value).ownBlock ∧ some k_ ≠ (u6 : Value).ownBlock) v7 x7_3) ∧ Aside0 (Below w.heap.size w w'))
              case atStart => exact ⟨(([] : List (S23))), ((⟨#[]⟩ : ByteArray)), (0), (by first | rfl | (simp; done) | (simp [*]; done)), (by first | rfl | (simp; done) | (simp [*]; done)), H', ⟨Nat.le_refl _⟩, ⟨by (with_reducible repeat (first | apply Kd.R_alloc | apply Kd.R_drewN | apply Kd.R_drew)); exact Kd.R_mono HO_5.out (fun _ hk => ⟨hk, (by simp [Value.ownBlock])⟩)⟩, ⟨by (with_reducible repeat (first | apply Kd.R_alloc | apply Kd.R_drewN | apply Kd.R_drew)); exact Kd.R_mono HO_6.out (fun _ hk => ⟨hk, (by simp [Value.ownBlock])⟩)⟩, ⟨by first | exact Kd.R_nil _ _ _ _ _ | exact Kd.N_nil _ _ _ _ _ | exact Kd.V_nil _ _ _ _ _ | exact Kd.Q_nil _ _ _ _ _ | exact Kd.S_nil _ _ _ _ _⟩, ⟨by repeat first | with_reducible exact HB.out | apply zS | exact HB.out⟩⟩
              case round =>
                clear H'
                try clear c1
                try clear q1
                try clear p2
                try clear c3
                try clear p3
                try clear q3
                try clear hx3
                try clear p6
                try clear c9
                try clear c9b0
                try clear c10
                try clear q11
                try clear p31
                try clear q31
                try clear hx31
                try clear p64
                try clear c94
                try clear c95
                try clear hx310_0
                try clear p310
                try clear q310
                obtain ⟨x7_3, x13_3, x14_3, rfl, rfl, HA, HK3, HO_5, HO_6, HO_7, HB⟩ := hrel
                cases gk with
                | zero => exact absurd HA.out (by simp [pannierlaw10_FoldTruths.l1])
                | succ k3 =>
                  have H := HA.out
                  clear HA
                  simp only [pannierlaw10_FoldTruths.l1] at H
                  by_cases c175 : x14_3 < (l1.length : Int)
                  · rw [if_pos c175] at H
                    have c175b0 : decide (x14_3 < (l1.length : Int)) = true := decide_eq_true c175
                    clear c175
                    by_cases c176 : 0 ≤ x14_3
                    · rw [if_pos c176] at H
                      have c176b0 : decide (0 ≤ x14_3) = true := decide_eq_true c176
                      clear c176
                      by_cases c177 : ((rdOf ByteArray.empty l1 x14_3).size : Int) > 200
                      · rw [if_pos c177] at H
                        have c177b0 : decide (200 < ((rdOf ByteArray.empty l1 x14_3).size : Int)) = true := decide_eq_true c177
                        have c177b1 : decide (200 < (rdOf ByteArray.empty l1 x14_3).size) = true := decide_eq_true (by omega)
                        clear c177
                        replace H := Option.bind_eq_some_iff.mp H
                        obtain ⟨t312, A1780, H⟩ := H
                        replace H : (some t312) = some r := H
                        have A178 := Aside0.mk A1780
                        clear A1780
                        obtain rfl := Option.some.inj H
                        have p311 : 0 ≤ (x14_3 : Int) := of_decide_eq_true (by first | (with_reducible assumption) | assumption)
                        have q311 : x14_3 < (l1.length : Int) := of_decide_eq_true (by first | (with_reducible assumption) | assumption)
                        obtain ⟨ad311, e311, hx311_0⟩ := Kd.at_string HR1.out x14_3 p311 q311
                        cases e311
                        replace hx311_0 := (HB.out.cell (World.block_lt_of_cell? w _ hx311_0)).trans hx311_0
                        replace p311 := eq_true p311
                        replace q311 := eq_true q311
                        go_wp2_with (first | ((with_reducible refine gate_callee (f := 12) rfl ?_); refine goesL_ (some 96) rfl rfl Tryd.func12 (by kernel_rfl) rfl #[] rfl (by (try simp only [List.map_toArray, List.map_cons, List.map_nil]); first | done | rfl | (simp only [List.length_drop, List.length_take]; rfl)) ?_; (with_reducible refine (pannierlaw10_wakes.calls  t312 _ ?side1 A178.out).mono ?_); (case side1 => exact gl_2_2 (by repeat first | with_reducible exact HB.out | apply zS | exact HB.out) hG); rintro e w179 ⟨rfl, hb⟩; refine ⟨_, rfl, ?_⟩; have n0_ := Aside0.mk (Kd.R_below (by (with_reducible repeat (first | apply Kd.R_alloc | apply Kd.R_drewN | apply Kd.R_drew)); exact HO_5.out) hb); have n1_ := Aside0.mk (Kd.R_below (by (with_reducible repeat (first | apply Kd.R_alloc | apply Kd.R_drewN | apply Kd.R_drew)); exact HO_6.out) hb); have n2_ := Aside0.mk (Kd.R_below (by (with_reducible repeat (first | apply Kd.R_alloc | apply Kd.R_drewN | apply Kd.R_drew)); exact HO_7.out) hb); have n3_ := Aside0.mk (below_step (by repeat first | with_reducible exact HB.out | apply zS | exact HB.out) hb); clear HO_5; clear HO_6; clear HO_7; clear HB; have HO_5 := n0_; have HO_6 := n1_; have HO_7 := n2_; have HB := n3_; clear n0_ n1_ n2_ n3_; (try clear hb); (try clear hb2); (try clear hk); (try clear hi)))
                        go_ret
                        exact ⟨by first | rfl | (simp [errW_none, errW_some] <;> rfl) | (simp [*, errW_none, errW_some] <;> rfl), by repeat first | with_reducible exact HB.out | apply zS | exact HB.out⟩
                      · rw [if_neg c177] at H
                        have c177b0 : decide (200 < ((rdOf ByteArray.empty l1 x14_3).size : Int)) = false := decide_eq_false c177
                        have c177b1 : decide (200 < (rdOf ByteArray.empty l1 x14_3).size) = false := decide_eq_false (by omega)
                        clear c177
                        by_cases c180 : (wrap64 ((x13_3.size : Int) + ((rdOf ByteArray.empty l1 x14_3).size : Int))) > 200
                        · rw [if_pos c180] at H
                          have c180b0 : decide (200 < (wrap64 ((x13_3.size : Int) + ((rdOf ByteArray.empty l1 x14_3).size : Int)))) = true := decide_eq_true c180
                          clear c180
                          replace H := Option.bind_eq_some_iff.mp H
                          obtain ⟨t314, A1810, H⟩ := H
                          replace H : (some t314) = some r := H
                          have A181 := Aside0.mk A1810
                          clear A1810
                          obtain rfl := Option.some.inj H
                          have p311 : 0 ≤ (x14_3 : Int) := of_decide_eq_true (by first | (with_reducible assumption) | assumption)
                          have q311 : x14_3 < (l1.length : Int) := of_decide_eq_true (by first | (with_reducible assumption) | assumption)
                          obtain ⟨ad311, e311, hx311_0⟩ := Kd.at_string HR1.out x14_3 p311 q311
                          cases e311
                          replace hx311_0 := (HB.out.cell (World.block_lt_of_cell? w _ hx311_0)).trans hx311_0
                          replace p311 := eq_true p311
                          replace q311 := eq_true q311
                          have p313 : 0 ≤ (x14_3 : Int) := of_decide_eq_true (by first | (with_reducible assumption) | assumption)
                          have q313 : x14_3 < (l1.length : Int) := of_decide_eq_true (by first | (with_reducible assumption) | assumption)
                          obtain ⟨ad313, e313, hx313_0⟩ := Kd.at_string HR1.out x14_3 p313 q313
                          obtain rfl : ad311 = ad313 := (by injection e313)
                          replace hx313_0 := (HB.out.cell (World.block_lt_of_cell? w _ hx313_0)).trans hx313_0
                          replace p313 := eq_true p313
                          replace q313 := eq_true q313
                          go_wp2_with (first | ((with_reducible refine gate_callee (f := 12) rfl ?_); refine goesL_ (some 96) rfl rfl Tryd.func12 (by kernel_rfl) rfl #[] rfl (by (try simp only [List.map_toArray, List.map_cons, List.map_nil]); first | done | rfl | (simp only [List.length_drop, List.length_take]; rfl)) ?_; (with_reducible refine (pannierlaw10_wakes.calls  t314 _ ?side1 A181.out).mono ?_); (case side1 => exact gl_2_2 (by repeat first | with_reducible exact HB.out | apply zS | exact HB.out) hG); rintro e w182 ⟨rfl, hb⟩; refine ⟨_, rfl, ?_⟩; have n0_ := Aside0.mk (Kd.R_below (by (with_reducible repeat (first | apply Kd.R_alloc | apply Kd.R_drewN | apply Kd.R_drew)); exact HO_5.out) hb); have n1_ := Aside0.mk (Kd.R_below (by (with_reducible repeat (first | apply Kd.R_alloc | apply Kd.R_drewN | apply Kd.R_drew)); exact HO_6.out) hb); have n2_ := Aside0.mk (Kd.R_below (by (with_reducible repeat (first | apply Kd.R_alloc | apply Kd.R_drewN | apply Kd.R_drew)); exact HO_7.out) hb); have n3_ := Aside0.mk (below_step (by repeat first | with_reducible exact HB.out | apply zS | exact HB.out) hb); clear HO_5; clear HO_6; clear HO_7; clear HB; have HO_5 := n0_; have HO_6 := n1_; have HO_7 := n2_; have HB := n3_; clear n0_ n1_ n2_ n3_; (try clear hb); (try clear hb2); (try clear hk); (try clear hi)))
                          go_ret
                          exact ⟨by first | rfl | (simp [errW_none, errW_some] <;> rfl) | (simp [*, errW_none, errW_some] <;> rfl), by repeat first | with_reducible exact HB.out | apply zS | exact HB.out⟩
                        · rw [if_neg c180] at H
                          have c180b0 : decide (200 < (wrap64 ((x13_3.size : Int) + ((rdOf ByteArray.empty l1 x14_3).size : Int)))) = false := decide_eq_false c180
                          clear c180
                          by_cases c183 : x13_3.size + (rdOf ByteArray.empty l1 x14_3).size ≤ 9223372036854775807
                          · rw [if_pos c183] at H
                            have c183b0 := eq_true c183
                            have c183b1 : decide (x13_3.size + (rdOf ByteArray.empty l1 x14_3).size ≤ 9223372036854775807) = true := decide_eq_true c183
                            try have c183b2 : (9223372036854775807 < x13_3.size + (rdOf ByteArray.empty l1 x14_3).size) = False := eq_false (Nat.not_lt.2 c183)
                            have c183x : (((x13_3.size : Int) + ((rdOf ByteArray.empty l1 x14_3).size : Int)) ≤ 200) = True := eq_true (by have z_ := of_decide_eq_false c180b0; rw [M.wrap64_id (by unfold M.I64; omega)] at z_; omega)
                            have c183y : decide (200 < ((x13_3.size : Int) + ((rdOf ByteArray.empty l1 x14_3).size : Int))) = false := decide_eq_false (by have z_ := of_decide_eq_false c180b0; rw [M.wrap64_id (by unfold M.I64; omega)] at z_; omega)
                            obtain ⟨y317, hy317⟩ : ∃ y_ : List (S23), y_ = (([(⟨3, 0, rdOf ByteArray.empty l1 x14_3⟩ : S23)] : List (S23))) := ⟨_, rfl⟩
                            replace H : (if x7_3.length + y317.length < 4398046511104 then (pannierlaw10_FoldTruths.l1 k3 l1 x5_2 x6_2 (x7_3 ++ y317) x8_2 x9_2 (x13_3 ++ (rdOf ByteArray.empty l1 x14_3)) (wrap64 (x14_3 + 1))) else (none)) = some r := by first | (rw [hy317]; with_reducible exact H) | (have H2_ := (Option.bind_some _ _).symm.trans H; rw [hy317]; with_reducible exact H2_) | (have H2_ := (Option.bind_some _ _).symm.trans H; with_reducible exact H2_) | with_reducible exact H | (rw [hy317]; exact H) | exact H
                            have Ny317 := Aside0.mk hy317
                            clear hy317
                            by_cases c184 : x7_3.length + y317.length < 4398046511104
                            · rw [if_pos c184] at H
                              have LMc184 := Aside0.mk c184
                              clear c184
                              obtain ⟨y320, hy320⟩ : ∃ y_ : List (S23), y_ = (x7_3 ++ y317) := ⟨_, rfl⟩
                              replace H : (pannierlaw10_FoldTruths.l1 k3 l1 x5_2 x6_2 y320 x8_2 x9_2 (x13_3 ++ (rdOf ByteArray.empty l1 x14_3)) (wrap64 (x14_3 + 1))) = some r := by first | (rw [hy320]; with_reducible exact H) | (have H2_ := (Option.bind_some _ _).symm.trans H; rw [hy320]; with_reducible exact H2_) | (have H2_ := (Option.bind_some _ _).symm.trans H; with_reducible exact H2_) | with_reducible exact H | (rw [hy320]; exact H) | exact H
                              have Ny320 := Aside0.mk hy320
                              clear hy320
                              have H' := Aside0.mk H
                              clear H
                              have p311 : 0 ≤ (x14_3 : Int) := of_decide_eq_true (by first | (with_reducible assumption) | assumption)
                              have q311 : x14_3 < (l1.length : Int) := of_decide_eq_true (by first | (with_reducible assumption) | assumption)
                              obtain ⟨ad311, e311, hx311_0⟩ := Kd.at_string HR1.out x14_3 p311 q311
                              cases e311
                              replace hx311_0 := (HB.out.cell (World.block_lt_of_cell? w _ hx311_0)).trans hx311_0
                              replace p311 := eq_true p311
                              replace q311 := eq_true q311
                              have p313 : 0 ≤ (x14_3 : Int) := of_decide_eq_true (by first | (with_reducible assumption) | assumption)
                              have q313 : x14_3 < (l1.length : Int) := of_decide_eq_true (by first | (with_reducible assumption) | assumption)
                              obtain ⟨ad313, e313, hx313_0⟩ := Kd.at_string HR1.out x14_3 p313 q313
                              obtain rfl : ad311 = ad313 := (by injection e313)
                              replace hx313_0 := (HB.out.cell (World.block_lt_of_cell? w _ hx313_0)).trans hx313_0
                              replace p313 := eq_true p313
                              replace q313 := eq_true q313
                              have p315 : 0 ≤ (x14_3 : Int) := of_decide_eq_true (by first | (with_reducible assumption) | assumption)
                              have q315 : x14_3 < (l1.length : Int) := of_decide_eq_true (by first | (with_reducible assumption) | assumption)
                              obtain ⟨ad315, e315, hx315_0⟩ := Kd.at_string HR1.out x14_3 p315 q315
                              obtain rfl : ad311 = ad315 := (by injection e315)
                              replace hx315_0 := (HB.out.cell (World.block_lt_of_cell? w _ hx315_0)).trans hx315_0
                              replace p315 := eq_true p315
                              replace q315 := eq_true q315
                              have p316 : 0 ≤ (x14_3 : Int) := of_decide_eq_true (by first | (with_reducible assumption) | assumption)
                              have q316 : x14_3 < (l1.length : Int) := of_decide_eq_true (by first | (with_reducible assumption) | assumption)
                              obtain ⟨ad316, e316, hx316_0⟩ := Kd.at_string HR1.out x14_3 p316 q316
                              obtain rfl : ad311 = ad316 := (by injection e316)
                              replace hx316_0 := (HB.out.cell (World.block_lt_of_cell? w _ hx316_0)).trans hx316_0
                              replace p316 := eq_true p316
                              replace q316 := eq_true q316
                              go_wp2_with (first | ((with_reducible refine gate_dst (N := 109) rfl ?_); (try (refine gate_guard (by rfl) ?_; dsimp only)); refine Kd.R_lit k23 _ 23 ?hg (N := 109) ?hd (xs := ([(⟨3, 0, rdOf ByteArray.empty l1 x14_3⟩ : S23)] : List (S23))) (inner := [.int .i64 3, .int .i64 0, .string (rdOf ByteArray.empty l1 x14_3)]) (ok := fun _ => True) (okp := fun _ => True) ?hr ?hp (fun _ hk => hk) trivial (Below.refl _ _) (Nat.le_refl _) (by simp) ?_; (case hd => rfl); (case hg => rfl); (case hr => first | (go_simp; done) | (go_simp; rfl)); (case hp => exact (Reps.c3 (show Kd.M k23 _ _ _ (⟨3, 0, rdOf ByteArray.empty l1 x14_3⟩ : S23) [.int .i64 3, .int .i64 0, .string (rdOf ByteArray.empty l1 x14_3)] from (k23_mkM _ _ _ (⟨3, 0, rdOf ByteArray.empty l1 x14_3⟩ : S23) )) (Reps.none _ _))); intro v318 w185 ho186 hb hg_ hnew_; clear hg_ hnew_; (first | rw [← Ny317.out] at ho186 | (simp only [Int.reduceToNat] at ho186; rw [← Ny317.out] at ho186)); have n0_ := Aside0.mk (Kd.R_elder' (by (with_reducible repeat (first | apply Kd.R_alloc | apply Kd.R_drewN | apply Kd.R_drew)); exact HO_5.out) (Kd.R_base ho186) hb); have n1_ := Aside0.mk (Kd.R_elder' (by (with_reducible repeat (first | apply Kd.R_alloc | apply Kd.R_drewN | apply Kd.R_drew)); exact HO_6.out) (Kd.R_base ho186) hb); have n2_ := Aside0.mk (Kd.R_elder' (by (with_reducible repeat (first | apply Kd.R_alloc | apply Kd.R_drewN | apply Kd.R_drew)); exact HO_7.out) (Kd.R_base ho186) hb); have n3_ := Aside0.mk (Kd.R_lower (Kd.R_new' (Kd.R_new' (Kd.R_new' ho186 (Kd.R_lt (by (with_reducible repeat (first | apply Kd.R_alloc | apply Kd.R_drewN | apply Kd.R_drew)); exact HO_5.out))) (Kd.R_lt (by (with_reducible repeat (first | apply Kd.R_alloc | apply Kd.R_drewN | apply Kd.R_drew)); exact HO_6.out))) (Kd.R_lt (by (with_reducible repeat (first | apply Kd.R_alloc | apply Kd.R_drewN | apply Kd.R_drew)); exact HO_7.out))) (below_size (by repeat first | with_reducible exact HB.out | apply zS | exact HB.out))); have n4_ := Aside0.mk (below_step (by repeat first | with_reducible exact HB.out | apply zS | exact HB.out) hb); clear HO_5; clear HO_6; clear HO_7; clear HB; have HO_5 := n0_; have HO_6 := n1_; have HO_7 := n2_; have HO319 := n3_; have HB := n4_; clear n0_ n1_ n2_ n3_ n4_; clear hb ho186; obtain ⟨Ao188, co188, eo188⟩ := Kd.R_slice HO319.out; subst eo188) | ((with_reducible refine gate_builtin (b := .append) (xs := #[.tmp 103, .tmp 109]) rfl ?_); (try (refine gate_guard (by rfl) ?_; dsimp only)); at_builtin; refine Kd.R_append_rows k23 (w0 := w) w.heap.size rfl (.tmp 103) (.tmp 109) 24 23 (.agg #[(.int .i64 0), (.int .i64 0), (.string ⟨#[]⟩)]) 32 rfl Tryd.underlying24 info23 rfl (by decide) (by omega) u7 x7_3 y317 _ _ _ (fun k_ => some k_ ≠ (u5 : Value).ownBlock ∧ some k_ ≠ (u6 : Value).ownBlock ∧ some k_ ≠ (.slice Ao188 y317.length co188 : Value).ownBlock) (fun _ => False) rfl rfl ?aO ?aR (fun _ _ h => h) (fun _ h => h.elim) ?aF ?aB ?aS ?aL ?_; (case aR => repeat (first | exact (Kd.R_reads' HO319.out).2.2 | (with_reducible refine Kd.C_alloc ?_ _) | (with_reducible refine Kd.C_drewN ?_ _) | (with_reducible refine Kd.C_drew ?_))); (case aB => exact (by repeat first | with_reducible exact HB.out | apply zS | exact HB.out)); (case aF => exact (fun k_ hk => ⟨Kd.fresh' (Kd.R_lt (by (with_reducible repeat (first | apply Kd.R_alloc | apply Kd.R_drewN | apply Kd.R_drew)); exact HO_5.out)) k_ hk, Kd.fresh' (Kd.R_lt (by (with_reducible repeat (first | apply Kd.R_alloc | apply Kd.R_drewN | apply Kd.R_drew)); exact HO_6.out)) k_ hk, Kd.fresh' (Kd.R_lt (by (with_reducible repeat (first | apply Kd.R_alloc | apply Kd.R_drewN | apply Kd.R_drew)); exact HO319.out)) k_ hk⟩)); (case aO => exact (by (with_reducible repeat (first | apply Kd.R_alloc | apply Kd.R_drewN | apply Kd.R_drew)); exact Kd.R_mono HO_7.out (fun _ hk => ⟨hk.1.1, ⟨hk.1.2, hk.2⟩⟩))); (case aS => exact (below_size (by repeat first | with_reducible exact HB.out | apply zS | exact HB.out))); (case aL => have := LMc184.out; omega); intro v321 w187 ho hb hg hat; rw [← Ny320.out] at ho; have n0_ := Aside0.mk (Kd.R_after (ok := (fun k_ => some k_ ≠ (u6 : Value).ownBlock ∧ some k_ ≠ (.slice Ao188 y317.length co188 : Value).ownBlock)) (by (with_reducible repeat (first | apply Kd.R_alloc | apply Kd.R_drewN | apply Kd.R_drew)); exact Kd.R_mono HO_5.out (fun _ hk => ⟨⟨hk.1.1, hk.2⟩, hk.1.2⟩)) hg hat); have n1_ := Aside0.mk (Kd.R_after (ok := (fun k_ => some k_ ≠ (u5 : Value).ownBlock ∧ some k_ ≠ (.slice Ao188 y317.length co188 : Value).ownBlock)) (by (with_reducible repeat (first | apply Kd.R_alloc | apply Kd.R_drewN | apply Kd.R_drew)); exact Kd.R_mono HO_6.out (fun _ hk => ⟨⟨hk.1.1, hk.2⟩, hk.1.2⟩)) hg hat); have n2_ := Aside0.mk (Kd.R_after (ok := (fun k_ => some k_ ≠ (u5 : Value).ownBlock ∧ some k_ ≠ (u6 : Value).ownBlock)) (by (with_reducible repeat (first | apply Kd.R_alloc | apply Kd.R_drewN | apply Kd.R_drew)); exact Kd.R_mono HO319.out (fun _ hk => ⟨⟨hk.1.1.2, hk.1.2⟩, hk.2⟩)) hg hat); have n3_ := Aside0.mk (hb); have n4_ := Aside0.mk (ho); clear HO_5; clear HO_6; clear HO319; clear HB; clear HO_7; have HO_5 := n0_; have HO_6 := n1_; have HO319 := n2_; have HB := n3_; have HO322 := n4_; clear n0_ n1_ n2_ n3_ n4_; clear ho hb hg hat))
                              go_roundg k3
                              case measure => have := HJ2.out; have := HK2.out; have := HK3.out; omega
                              case rel => exact ⟨(y320), (x13_3 ++ (rdOf ByteArray.empty l1 x14_3)), (wrap64 (x14_3 + 1)), (by first | rfl | (simp; done) | (simp [*]; done)), (by first | rfl | (simp; done) | (simp [*]; done)), H', ⟨by have := HJ2.out; have := HK2.out; have := HK3.out; omega⟩, ⟨by (with_reducible repeat (first | apply Kd.R_alloc | apply Kd.R_drewN | apply Kd.R_drew)); exact Kd.R_mono HO_5.out (fun _ hk => ⟨hk.1.1, hk.2⟩)⟩, ⟨by (with_reducible repeat (first | apply Kd.R_alloc | apply Kd.R_drewN | apply Kd.R_drew)); exact Kd.R_mono HO_6.out (fun _ hk => ⟨hk.1.1, hk.2⟩)⟩, ⟨by (with_reducible repeat (first | apply Kd.R_alloc | apply Kd.R_drewN | apply Kd.R_drew)); exact Kd.R_mono HO322.out (fun _ hk => ⟨hk.1, hk.2.1⟩)⟩, ⟨by repeat first | with_reducible exact HB.out | apply zS | exact HB.out⟩⟩
                            · rw [if_neg c184] at H
                              exact absurd H (by simp)
                          · rw [if_neg c183] at H
                            exact absurd H (by simp)
                    · rw [if_neg c176] at H
                      exact absurd H (by simp)
                  · rw [if_neg c175] at H
                    have c175b0 : decide (x14_3 < (l1.length : Int)) = false := decide_eq_false c175
                    clear c175
                    replace H := Option.bind_eq_some_iff.mp H
                    obtain ⟨⟨t323, t324, t325, t326⟩, A1890, H⟩ := H
                    replace H : ((fold_Of.f (⟨#[79, 82]⟩ : ByteArray) x5_2).bind fun bt328 => ((fold_Of.f (⟨#[65, 78, 68]⟩ : ByteArray) x6_2).bind fun bt333 => ((fold_Of.f (⟨#[74, 79, 73, 78]⟩ : ByteArray) x7_3).bind fun bt338 => (if ((t324 == 1) == x8_2) = true then (if ((bt328.2.1 == 1) == x9_2) = true then (if ((bt333.2.1 == 1) == (!x9_2)) = true then (if t323 = 1 then (if bt338.2.2.2 = true then (if bt338.1 = 3 then (if bt338.2.2.1.toList = x13_3.toList then ((pannierlaw10_wakes.f).bind fun t343 => (some t343)) else (none)) else (none)) else (none)) else (none)) else (none)) else (none)) else (none))))) = some r := H
                    have A189 := Aside0.mk A1890
                    clear A1890
                    replace H := Option.bind_eq_some_iff.mp H
                    obtain ⟨⟨t328, t329, t330, t331⟩, A1900, H⟩ := H
                    replace H : ((fold_Of.f (⟨#[65, 78, 68]⟩ : ByteArray) x6_2).bind fun bt333 => ((fold_Of.f (⟨#[74, 79, 73, 78]⟩ : ByteArray) x7_3).bind fun bt338 => (if ((t324 == 1) == x8_2) = true then (if ((t329 == 1) == x9_2) = true then (if ((bt333.2.1 == 1) == (!x9_2)) = true then (if t323 = 1 then (if bt338.2.2.2 = true then (if bt338.1 = 3 then (if bt338.2.2.1.toList = x13_3.toList then ((pannierlaw10_wakes.f).bind fun t343 => (some t343)) else (none)) else (none)) else (none)) else (none)) else (none)) else (none)) else (none)))) = some r := H
                    have A190 := Aside0.mk A1900
                    clear A1900
                    replace H := Option.bind_eq_some_iff.mp H
                    obtain ⟨⟨t333, t334, t335, t336⟩, A1910, H⟩ := H
                    replace H : ((fold_Of.f (⟨#[74, 79, 73, 78]⟩ : ByteArray) x7_3).bind fun bt338 => (if ((t324 == 1) == x8_2) = true then (if ((t329 == 1) == x9_2) = true then (if ((t334 == 1) == (!x9_2)) = true then (if t323 = 1 then (if bt338.2.2.2 = true then (if bt338.1 = 3 then (if bt338.2.2.1.toList = x13_3.toList then ((pannierlaw10_wakes.f).bind fun t343 => (some t343)) else (none)) else (none)) else (none)) else (none)) else (none)) else (none)) else (none))) = some r := H
                    have A191 := Aside0.mk A1910
                    clear A1910
                    replace H := Option.bind_eq_some_iff.mp H
                    obtain ⟨⟨t338, t339, t340, t341⟩, A1920, H⟩ := H
                    replace H : (if ((t324 == 1) == x8_2) = true then (if ((t329 == 1) == x9_2) = true then (if ((t334 == 1) == (!x9_2)) = true then (if t323 = 1 then (if t341 = true then (if t338 = 3 then (if t340.toList = x13_3.toList then ((pannierlaw10_wakes.f).bind fun t343 => (some t343)) else (none)) else (none)) else (none)) else (none)) else (none)) else (none)) else (none)) = some r := H
                    have A192 := Aside0.mk A1920
                    clear A1920
                    by_cases c193 : ((t324 == 1) == x8_2) = true
                    · rw [if_pos c193] at H
                      have c193b0 : ((t324 == 1) == x8_2) = true := c193
                      (try (have c193b1 : decide ((t324 == 1) = x8_2) = true := by simpa using c193))
                      (try (have c193b2 : ((t324 == 1) == x8_2) = true := by simpa using c193))
                      clear c193
                      by_cases c194 : ((t329 == 1) == x9_2) = true
                      · rw [if_pos c194] at H
                        have c194b0 : ((t329 == 1) == x9_2) = true := c194
                        (try (have c194b1 : decide ((t329 == 1) = x9_2) = true := by simpa using c194))
                        (try (have c194b2 : ((t329 == 1) == x9_2) = true := by simpa using c194))
                        clear c194
                        by_cases c195 : ((t334 == 1) == (!x9_2)) = true
                        · rw [if_pos c195] at H
                          have c195b0 : ((t334 == 1) == (!x9_2)) = true := c195
                          (try (have c195b1 : decide ((t334 == 1) = (!x9_2)) = true := by simpa using c195))
                          (try (have c195b2 : ((t334 == 1) == (!x9_2)) = true := by simpa using c195))
                          clear c195
                          by_cases c196 : t323 = 1
                          · rw [if_pos c196] at H
                            have c196b0 : (t323 == 1) = true := beq_iff_eq.mpr c196
                            have c196b1 : (t323 != 1) = false := bne_eq_false_iff_eq.mpr c196
                            clear c196
                            by_cases c197 : t341 = true
                            · subst c197
                              have H1 : (if t338 = 3 then (if t340.toList = x13_3.toList then ((pannierlaw10_wakes.f).bind fun t343 => (some t343)) else (none)) else (none)) = some r := by rw [if_pos rfl] at H; exact H
                              clear H
                              have H := H1
                              clear H1
                              by_cases c198 : t338 = 3
                              · rw [if_pos c198] at H
                                have c198b0 : (t338 == 3) = true := beq_iff_eq.mpr c198
                                have c198b1 : (t338 != 3) = false := bne_eq_false_iff_eq.mpr c198
                                clear c198
                                by_cases c199 : t340.toList = x13_3.toList
                                · rw [if_pos c199] at H
                                  have c199b0 : (t340.toList == x13_3.toList) = true := beq_iff_eq.mpr c199
                                  have c199b1 : (t340.toList != x13_3.toList) = false := bne_eq_false_iff_eq.mpr c199
                                  clear c199
                                  replace H := Option.bind_eq_some_iff.mp H
                                  obtain ⟨t343, A2000, H⟩ := H
                                  replace H : (some t343) = some r := H
                                  have A200 := Aside0.mk A2000
                                  clear A2000
                                  obtain rfl := Option.some.inj H
                                  obtain ⟨Ao201, co201, eo201⟩ := Kd.R_slice HO_5.out
                                  subst eo201
                                  go_wp2_with (first | ((with_reducible refine gate_callee (f := 17) rfl ?_); refine goesL_ (some 113) rfl rfl Tryd.func17 (by kernel_rfl) rfl #[.string (⟨#[65, 78, 68]⟩ : ByteArray), .slice Ao201 x5_2.length co201] rfl (by (try simp only [List.map_toArray, List.map_cons, List.map_nil]); first | done | rfl | (simp only [List.length_drop, List.length_take]; rfl)) ?_; (with_reducible refine (fold_Of.calls (⟨#[65, 78, 68]⟩ : ByteArray) _ _ x5_2 t323 t324 t325 t326 _ ?side1 ?side2 ?side3 A189.out).mono ?_); (case side1 => repeat (first | exact (Kd.R_reads' HO_5.out).2.2 | (with_reducible refine Kd.C_alloc ?_ _) | (with_reducible refine Kd.C_drewN ?_ _) | (with_reducible refine Kd.C_drew ?_))); (case side2 => exact (Kd.R_reads' HO_5.out).2.1); (case side3 => exact gl_2_2 (by repeat first | with_reducible exact HB.out | apply zS | exact HB.out) hG); rintro e w202 ⟨rfl, hb⟩; refine ⟨_, rfl, ?_⟩; have n0_ := Aside0.mk (Kd.R_below (by (with_reducible repeat (first | apply Kd.R_alloc | apply Kd.R_drewN | apply Kd.R_drew)); exact HO_5.out) hb); have n1_ := Aside0.mk (Kd.R_below (by (with_reducible repeat (first | apply Kd.R_alloc | apply Kd.R_drewN | apply Kd.R_drew)); exact HO_6.out) hb); have n2_ := Aside0.mk (Kd.R_below (by (with_reducible repeat (first | apply Kd.R_alloc | apply Kd.R_drewN | apply Kd.R_drew)); exact HO_7.out) hb); have n3_ := Aside0.mk (below_step (by repeat first | with_reducible exact HB.out | apply zS | exact HB.out) hb); clear HO_5; clear HO_6; clear HO_7; clear HB; have HO_5 := n0_; have HO_6 := n1_; have HO_7 := n2_; have HB := n3_; clear n0_ n1_ n2_ n3_; (try clear hb); (try clear hb2); (try clear hk); (try clear hi)) | ((with_reducible refine gate_dst (N := 15) rfl ?_); (try (refine gate_guard (by rfl) ?_; dsimp only)); refine box_event ?hg (N := 15) ?hd (cs := #[.int .i64 0, .int .i64 0, .string (⟨#[]⟩ : ByteArray)]) (t := 23) ?hr ?_; (case hd => rfl); (case hg => rfl); (case hr => first | (go_simp; done) | (go_simp; rfl)); intro gb327 hg w203 hbox hb; have n0_ := Aside0.mk (Kd.R_below (Kd.R_elderB (by (with_reducible repeat (first | apply Kd.R_alloc | apply Kd.R_drewN | apply Kd.R_drew)); exact HO_5.out) gb327 (Nat.le_of_eq hg.symm)) hb); have n1_ := Aside0.mk (Kd.R_below (Kd.R_elderB (by (with_reducible repeat (first | apply Kd.R_alloc | apply Kd.R_drewN | apply Kd.R_drew)); exact HO_6.out) gb327 (Nat.le_of_eq hg.symm)) hb); have n2_ := Aside0.mk (Kd.R_below (Kd.R_elderB (by (with_reducible repeat (first | apply Kd.R_alloc | apply Kd.R_drewN | apply Kd.R_drew)); exact HO_7.out) gb327 (Nat.le_of_eq hg.symm)) hb); have n3_ := Aside0.mk (below_step (by repeat first | with_reducible exact HB.out | apply zS | exact HB.out) hb); have n4_ := Aside0.mk (hbox); have n5_ := Aside0.mk ((by rw [hg]; exact (below_size (by repeat first | with_reducible exact HB.out | apply zS | exact HB.out)) : w.heap.size ≤ gb327)); have n6_ := n5_; clear HO_5; clear HO_6; clear HO_7; clear HB; have HO_5 := n0_; have HO_6 := n1_; have HO_7 := n2_; have HB := n3_; have BK327 := n4_; have GW327 := n5_; have GE327 := n6_; clear n0_ n1_ n2_ n3_ n4_ n5_ n6_; clear hb hbox hg; obtain ⟨hcz204_0, hcz204_1, hcz204_2, hfz204_0, hfz204_1, hfz204_2⟩ := zC3 BK327.out) | ((with_reducible refine gate_callee (f := 17) rfl ?_); refine goesL_ (some 118) rfl rfl Tryd.func17 (by kernel_rfl) rfl #[.string (⟨#[79, 82]⟩ : ByteArray), .slice Ao201 x5_2.length co201] rfl (by (try simp only [List.map_toArray, List.map_cons, List.map_nil]); first | done | rfl | (simp only [List.length_drop, List.length_take]; rfl)) ?_; (with_reducible refine (fold_Of.calls (⟨#[79, 82]⟩ : ByteArray) _ _ x5_2 t328 t329 t330 t331 _ ?side1 ?side2 ?side3 A190.out).mono ?_); (case side1 => refine (Kd.R_reads' (e := 23) (base := w.heap.size) (ok := fun k_ => ((some k_ ≠ (u6 : Value).ownBlock ∧ some k_ ≠ (u7 : Value).ownBlock) ∧ k_ ≠ gb327)) (n := x5_2.length) (c := co201) ?_).2.2; exact (by (with_reducible repeat (first | apply Kd.R_alloc | apply Kd.R_drewN | apply Kd.R_drew)); exact (Kd.R_mono (Kd.R_far (p := ⟨gb327, 2, none⟩) (Kd.R_far (p := ⟨gb327, 1, none⟩) (Kd.R_far (p := ⟨gb327, 0, none⟩) (Kd.R_mono HO_5.out (fun k_ hk => (⟨hk, hk.2⟩ : _ ∧ k_ ≠ gb327))) (fun _ hk => hk.2) (.int .i64 t323)) (fun _ hk => hk.2) (.int .i64 t324)) (fun _ hk => hk.2) (.string t325)) (fun _ h_ => h_.1)))); (case side2 => exact (Kd.R_reads' HO_5.out).2.1); (case side3 => exact gl_2_2 (by repeat first | with_reducible exact HB.out | apply zS | refine below_set ?_ GE327.out | exact HB.out) hG); rintro e w205 ⟨rfl, hb⟩; refine ⟨_, rfl, ?_⟩; have n0_ := Aside0.mk (Kd.R_below (by (with_reducible repeat (first | apply Kd.R_alloc | apply Kd.R_drewN | apply Kd.R_drew)); exact (Kd.R_mono (Kd.R_far (p := ⟨gb327, 2, none⟩) (Kd.R_far (p := ⟨gb327, 1, none⟩) (Kd.R_far (p := ⟨gb327, 0, none⟩) (Kd.R_mono HO_5.out (fun k_ hk => (⟨hk, hk.2⟩ : _ ∧ k_ ≠ gb327))) (fun _ hk => hk.2) (.int .i64 t323)) (fun _ hk => hk.2) (.int .i64 t324)) (fun _ hk => hk.2) (.string t325)) (fun _ h_ => h_.1))) hb); have n1_ := Aside0.mk (Kd.R_below (by (with_reducible repeat (first | apply Kd.R_alloc | apply Kd.R_drewN | apply Kd.R_drew)); exact (Kd.R_mono (Kd.R_far (p := ⟨gb327, 2, none⟩) (Kd.R_far (p := ⟨gb327, 1, none⟩) (Kd.R_far (p := ⟨gb327, 0, none⟩) (Kd.R_mono HO_6.out (fun k_ hk => (⟨hk, hk.2⟩ : _ ∧ k_ ≠ gb327))) (fun _ hk => hk.2) (.int .i64 t323)) (fun _ hk => hk.2) (.int .i64 t324)) (fun _ hk => hk.2) (.string t325)) (fun _ h_ => h_.1))) hb); have n2_ := Aside0.mk (Kd.R_below (by (with_reducible repeat (first | apply Kd.R_alloc | apply Kd.R_drewN | apply Kd.R_drew)); exact (Kd.R_mono (Kd.R_far (p := ⟨gb327, 2, none⟩) (Kd.R_far (p := ⟨gb327, 1, none⟩) (Kd.R_far (p := ⟨gb327, 0, none⟩) (Kd.R_mono HO_7.out (fun k_ hk => (⟨hk, hk.2⟩ : _ ∧ k_ ≠ gb327))) (fun _ hk => hk.2) (.int .i64 t323)) (fun _ hk => hk.2) (.int .i64 t324)) (fun _ hk => hk.2) (.string t325)) (fun _ h_ => h_.1))) hb); have n3_ := Aside0.mk (blk_below (g := gb327) (o := .cells #[.int .i64 t323, .int .i64 t324, .string t325] 23 (0, 0)) (by refine zB ?_; refine blk_put (cs := #[.int .i64 t323, .int .i64 t324, .string (⟨#[]⟩ : ByteArray)]) ?_ 2 _ rfl; refine zB ?_; refine blk_put (cs := #[.int .i64 t323, .int .i64 0, .string (⟨#[]⟩ : ByteArray)]) ?_ 1 _ rfl; refine zB ?_; refine blk_put (cs := #[.int .i64 0, .int .i64 0, .string (⟨#[]⟩ : ByteArray)]) ?_ 0 _ rfl; refine zB ?_; exact BK327.out) hb); have n4_ := Aside0.mk (below_step (by repeat first | with_reducible exact HB.out | apply zS | refine below_set ?_ GE327.out | exact HB.out) hb); clear HO_5; clear HO_6; clear HO_7; clear BK327; clear HB; have HO_5 := n0_; have HO_6 := n1_; have HO_7 := n2_; have BK327 := n3_; have HB := n4_; clear n0_ n1_ n2_ n3_ n4_; (try clear hb); (try clear hb2); (try clear hk); (try clear hi)) | ((with_reducible refine gate_dst (N := 17) rfl ?_); (try (refine gate_guard (by rfl) ?_; dsimp only)); refine box_event ?hg (N := 17) ?hd (cs := #[.int .i64 0, .int .i64 0, .string (⟨#[]⟩ : ByteArray)]) (t := 23) ?hr ?_; (case hd => rfl); (case hg => rfl); (case hr => first | (go_simp; done) | (go_simp; rfl)); intro gb332 hg w206 hbox hb; have n0_ := Aside0.mk (Kd.R_below (Kd.R_elderB (by (with_reducible repeat (first | apply Kd.R_alloc | apply Kd.R_drewN | apply Kd.R_drew)); exact HO_5.out) gb332 (Nat.le_of_eq hg.symm)) hb); have n1_ := Aside0.mk (Kd.R_below (Kd.R_elderB (by (with_reducible repeat (first | apply Kd.R_alloc | apply Kd.R_drewN | apply Kd.R_drew)); exact HO_6.out) gb332 (Nat.le_of_eq hg.symm)) hb); have n2_ := Aside0.mk (Kd.R_below (Kd.R_elderB (by (with_reducible repeat (first | apply Kd.R_alloc | apply Kd.R_drewN | apply Kd.R_drew)); exact HO_7.out) gb332 (Nat.le_of_eq hg.symm)) hb); have n3_ := Aside0.mk (blk_below (g := gb327) (o := .cells #[.int .i64 t323, .int .i64 t324, .string t325] 23 (0, 0)) (zB BK327.out) hb); have n4_ := Aside0.mk (below_step (by repeat first | with_reducible exact HB.out | apply zS | refine below_set ?_ GE327.out | exact HB.out) hb); have n5_ := Aside0.mk (hbox); have n6_ := Aside0.mk ((by rw [hg]; exact (below_size (by repeat first | with_reducible exact HB.out | apply zS | refine below_set ?_ GE327.out | exact HB.out)) : w.heap.size ≤ gb332)); have n7_ := n6_; have n8_ := Aside0.mk ((by rw [hg]; exact Nat.ne_of_lt (blk_lt (g := gb327) (o := .cells #[.int .i64 t323, .int .i64 t324, .string t325] 23 (0, 0)) (zB BK327.out)) : gb327 ≠ gb332)); have n9_ := Aside0.mk ((by rw [hg]; exact Nat.ne_of_gt (blk_lt (g := gb327) (o := .cells #[.int .i64 t323, .int .i64 t324, .string t325] 23 (0, 0)) (zB BK327.out)) : gb332 ≠ gb327)); clear HO_5; clear HO_6; clear HO_7; clear BK327; clear HB; have HO_5 := n0_; have HO_6 := n1_; have HO_7 := n2_; have BK327 := n3_; have HB := n4_; have BK332 := n5_; have GW332 := n6_; have GE332 := n7_; have NB327_332 := n8_; have NB332_327 := n9_; clear n0_ n1_ n2_ n3_ n4_ n5_ n6_ n7_ n8_ n9_; clear hb hbox hg; have hnb207 := NB332_327.out; have hnc207 := NB327_332.out; obtain ⟨hcz208_0, hcz208_1, hcz208_2, hfz208_0, hfz208_1, hfz208_2⟩ := zC3 BK332.out; obtain ⟨Ao209, co209, eo209⟩ := Kd.R_slice HO_6.out; subst eo209) | ((with_reducible refine gate_callee (f := 17) rfl ?_); refine goesL_ (some 123) rfl rfl Tryd.func17 (by kernel_rfl) rfl #[.string (⟨#[65, 78, 68]⟩ : ByteArray), .slice Ao209 x6_2.length co209] rfl (by (try simp only [List.map_toArray, List.map_cons, List.map_nil]); first | done | rfl | (simp only [List.length_drop, List.length_take]; rfl)) ?_; (with_reducible refine (fold_Of.calls (⟨#[65, 78, 68]⟩ : ByteArray) _ _ x6_2 t333 t334 t335 t336 _ ?side1 ?side2 ?side3 A191.out).mono ?_); (case side1 => refine (Kd.R_reads' (e := 23) (base := w.heap.size) (ok := fun k_ => (((some k_ ≠ (.slice Ao201 x5_2.length co201 : Value).ownBlock ∧ some k_ ≠ (u7 : Value).ownBlock) ∧ k_ ≠ gb327) ∧ k_ ≠ gb332)) (n := x6_2.length) (c := co209) ?_).2.2; exact (by (with_reducible repeat (first | apply Kd.R_alloc | apply Kd.R_drewN | apply Kd.R_drew)); exact (Kd.R_mono (Kd.R_far (p := ⟨gb332, 2, none⟩) (Kd.R_far (p := ⟨gb332, 1, none⟩) (Kd.R_far (p := ⟨gb332, 0, none⟩) (Kd.R_mono HO_6.out (fun k_ hk => (⟨hk, hk.2⟩ : _ ∧ k_ ≠ gb332))) (fun _ hk => hk.2) (.int .i64 t328)) (fun _ hk => hk.2) (.int .i64 t329)) (fun _ hk => hk.2) (.string t330)) (fun _ h_ => h_.1)))); (case side2 => exact (Kd.R_reads' HO_6.out).2.1); (case side3 => exact gl_2_2 (by repeat first | with_reducible exact HB.out | apply zS | refine below_set ?_ GE327.out | refine below_set ?_ GE332.out | exact HB.out) hG); rintro e w210 ⟨rfl, hb⟩; refine ⟨_, rfl, ?_⟩; have n0_ := Aside0.mk (Kd.R_below (by (with_reducible repeat (first | apply Kd.R_alloc | apply Kd.R_drewN | apply Kd.R_drew)); exact (Kd.R_mono (Kd.R_far (p := ⟨gb332, 2, none⟩) (Kd.R_far (p := ⟨gb332, 1, none⟩) (Kd.R_far (p := ⟨gb332, 0, none⟩) (Kd.R_mono HO_5.out (fun k_ hk => (⟨hk, hk.2⟩ : _ ∧ k_ ≠ gb332))) (fun _ hk => hk.2) (.int .i64 t328)) (fun _ hk => hk.2) (.int .i64 t329)) (fun _ hk => hk.2) (.string t330)) (fun _ h_ => h_.1))) hb); have n1_ := Aside0.mk (Kd.R_below (by (with_reducible repeat (first | apply Kd.R_alloc | apply Kd.R_drewN | apply Kd.R_drew)); exact (Kd.R_mono (Kd.R_far (p := ⟨gb332, 2, none⟩) (Kd.R_far (p := ⟨gb332, 1, none⟩) (Kd.R_far (p := ⟨gb332, 0, none⟩) (Kd.R_mono HO_6.out (fun k_ hk => (⟨hk, hk.2⟩ : _ ∧ k_ ≠ gb332))) (fun _ hk => hk.2) (.int .i64 t328)) (fun _ hk => hk.2) (.int .i64 t329)) (fun _ hk => hk.2) (.string t330)) (fun _ h_ => h_.1))) hb); have n2_ := Aside0.mk (Kd.R_below (by (with_reducible repeat (first | apply Kd.R_alloc | apply Kd.R_drewN | apply Kd.R_drew)); exact (Kd.R_mono (Kd.R_far (p := ⟨gb332, 2, none⟩) (Kd.R_far (p := ⟨gb332, 1, none⟩) (Kd.R_far (p := ⟨gb332, 0, none⟩) (Kd.R_mono HO_7.out (fun k_ hk => (⟨hk, hk.2⟩ : _ ∧ k_ ≠ gb332))) (fun _ hk => hk.2) (.int .i64 t328)) (fun _ hk => hk.2) (.int .i64 t329)) (fun _ hk => hk.2) (.string t330)) (fun _ h_ => h_.1))) hb); have n3_ := Aside0.mk (blk_below (g := gb327) (o := .cells #[.int .i64 t323, .int .i64 t324, .string t325] 23 (0, 0)) (by refine zB (blk_far ?_ NB327_332.out _); refine zB ?_; refine blk_far ?_ NB327_332.out _; refine zB (blk_far ?_ NB327_332.out _); refine zB ?_; exact BK327.out) hb); have n4_ := Aside0.mk (blk_below (g := gb332) (o := .cells #[.int .i64 t328, .int .i64 t329, .string t330] 23 (0, 0)) (by refine zB ?_; refine blk_put (cs := #[.int .i64 t328, .int .i64 t329, .string (⟨#[]⟩ : ByteArray)]) ?_ 2 _ rfl; refine zB ?_; refine blk_put (cs := #[.int .i64 t328, .int .i64 0, .string (⟨#[]⟩ : ByteArray)]) ?_ 1 _ rfl; refine zB ?_; refine blk_put (cs := #[.int .i64 0, .int .i64 0, .string (⟨#[]⟩ : ByteArray)]) ?_ 0 _ rfl; refine zB ?_; exact BK332.out) hb); have n5_ := Aside0.mk (below_step (by repeat first | with_reducible exact HB.out | apply zS | refine below_set ?_ GE327.out | refine below_set ?_ GE332.out | exact HB.out) hb); clear HO_5; clear HO_6; clear HO_7; clear BK327; clear BK332; clear HB; have HO_5 := n0_; have HO_6 := n1_; have HO_7 := n2_; have BK327 := n3_; have BK332 := n4_; have HB := n5_; clear n0_ n1_ n2_ n3_ n4_ n5_; (try clear hb); (try clear hb2); (try clear hk); (try clear hi)) | ((with_reducible refine gate_dst (N := 19) rfl ?_); (try (refine gate_guard (by rfl) ?_; dsimp only)); refine box_event ?hg (N := 19) ?hd (cs := #[.int .i64 0, .int .i64 0, .string (⟨#[]⟩ : ByteArray)]) (t := 23) ?hr ?_; (case hd => rfl); (case hg => rfl); (case hr => first | (go_simp; done) | (go_simp; rfl)); intro gb337 hg w211 hbox hb; have n0_ := Aside0.mk (Kd.R_below (Kd.R_elderB (by (with_reducible repeat (first | apply Kd.R_alloc | apply Kd.R_drewN | apply Kd.R_drew)); exact HO_5.out) gb337 (Nat.le_of_eq hg.symm)) hb); have n1_ := Aside0.mk (Kd.R_below (Kd.R_elderB (by (with_reducible repeat (first | apply Kd.R_alloc | apply Kd.R_drewN | apply Kd.R_drew)); exact HO_6.out) gb337 (Nat.le_of_eq hg.symm)) hb); have n2_ := Aside0.mk (Kd.R_below (Kd.R_elderB (by (with_reducible repeat (first | apply Kd.R_alloc | apply Kd.R_drewN | apply Kd.R_drew)); exact HO_7.out) gb337 (Nat.le_of_eq hg.symm)) hb); have n3_ := Aside0.mk (blk_below (g := gb327) (o := .cells #[.int .i64 t323, .int .i64 t324, .string t325] 23 (0, 0)) (zB BK327.out) hb); have n4_ := Aside0.mk (blk_below (g := gb332) (o := .cells #[.int .i64 t328, .int .i64 t329, .string t330] 23 (0, 0)) (zB BK332.out) hb); have n5_ := Aside0.mk (below_step (by repeat first | with_reducible exact HB.out | apply zS | refine below_set ?_ GE327.out | refine below_set ?_ GE332.out | exact HB.out) hb); have n6_ := Aside0.mk (hbox); have n7_ := Aside0.mk ((by rw [hg]; exact (below_size (by repeat first | with_reducible exact HB.out | apply zS | refine below_set ?_ GE327.out | refine below_set ?_ GE332.out | exact HB.out)) : w.heap.size ≤ gb337)); have n8_ := n7_; have n9_ := Aside0.mk ((by rw [hg]; exact Nat.ne_of_lt (blk_lt (g := gb327) (o := .cells #[.int .i64 t323, .int .i64 t324, .string t325] 23 (0, 0)) (zB BK327.out)) : gb327 ≠ gb337)); have n10_ := Aside0.mk ((by rw [hg]; exact Nat.ne_of_gt (blk_lt (g := gb327) (o := .cells #[.int .i64 t323, .int .i64 t324, .string t325] 23 (0, 0)) (zB BK327.out)) : gb337 ≠ gb327)); have n11_ := Aside0.mk ((by rw [hg]; exact Nat.ne_of_lt (blk_lt (g := gb332) (o := .cells #[.int .i64 t328, .int .i64 t329, .string t330] 23 (0, 0)) (zB BK332.out)) : gb332 ≠ gb337)); have n12_ := Aside0.mk ((by rw [hg]; exact Nat.ne_of_gt (blk_lt (g := gb332) (o := .cells #[.int .i64 t328, .int .i64 t329, .string t330] 23 (0, 0)) (zB BK332.out)) : gb337 ≠ gb332)); clear HO_5; clear HO_6; clear HO_7; clear BK327; clear BK332; clear HB; have HO_5 := n0_; have HO_6 := n1_; have HO_7 := n2_; have BK327 := n3_; have BK332 := n4_; have HB := n5_; have BK337 := n6_; have GW337 := n7_; have GE337 := n8_; have NB327_337 := n9_; have NB337_327 := n10_; have NB332_337 := n11_; have NB337_332 := n12_; clear n0_ n1_ n2_ n3_ n4_ n5_ n6_ n7_ n8_ n9_ n10_ n11_ n12_; clear hb hbox hg; have hnb212 := NB337_327.out; have hnc212 := NB327_337.out; have hnb213 := NB337_332.out; have hnc213 := NB332_337.out; obtain ⟨hcz214_0, hcz214_1, hcz214_2, hfz214_0, hfz214_1, hfz214_2⟩ := zC3 BK337.out; obtain ⟨Ao215, co215, eo215⟩ := Kd.R_slice HO_7.out; subst eo215) | ((with_reducible refine gate_callee (f := 17) rfl ?_); refine goesL_ (some 128) rfl rfl Tryd.func17 (by kernel_rfl) rfl #[.string (⟨#[74, 79, 73, 78]⟩ : ByteArray), .slice Ao215 x7_3.length co215] rfl (by (try simp only [List.map_toArray, List.map_cons, List.map_nil]); first | done | rfl | (simp only [List.length_drop, List.length_take]; rfl)) ?_; (with_reducible refine (fold_Of.calls (⟨#[74, 79, 73, 78]⟩ : ByteArray) _ _ x7_3 t338 t339 t340 true _ ?side1 ?side2 ?side3 A192.out).mono ?_); (case side1 => refine (Kd.R_reads' (e := 23) (base := w.heap.size) (ok := fun k_ => ((((some k_ ≠ (.slice Ao201 x5_2.length co201 : Value).ownBlock ∧ some k_ ≠ (.slice Ao209 x6_2.length co209 : Value).ownBlock) ∧ k_ ≠ gb327) ∧ k_ ≠ gb332) ∧ k_ ≠ gb337)) (n := x7_3.length) (c := co215) ?_).2.2; exact (by (with_reducible repeat (first | apply Kd.R_alloc | apply Kd.R_drewN | apply Kd.R_drew)); exact (Kd.R_mono (Kd.R_far (p := ⟨gb337, 2, none⟩) (Kd.R_far (p := ⟨gb337, 1, none⟩) (Kd.R_far (p := ⟨gb337, 0, none⟩) (Kd.R_mono HO_7.out (fun k_ hk => (⟨hk, hk.2⟩ : _ ∧ k_ ≠ gb337))) (fun _ hk => hk.2) (.int .i64 t333)) (fun _ hk => hk.2) (.int .i64 t334)) (fun _ hk => hk.2) (.string t335)) (fun _ h_ => h_.1)))); (case side2 => exact (Kd.R_reads' HO_7.out).2.1); (case side3 => exact gl_2_2 (by repeat first | with_reducible exact HB.out | apply zS | refine below_set ?_ GE327.out | refine below_set ?_ GE332.out | refine below_set ?_ GE337.out | exact HB.out) hG); rintro e w216 ⟨rfl, hb⟩; refine ⟨_, rfl, ?_⟩; have n0_ := Aside0.mk (Kd.R_below (by (with_reducible repeat (first | apply Kd.R_alloc | apply Kd.R_drewN | apply Kd.R_drew)); exact (Kd.R_mono (Kd.R_far (p := ⟨gb337, 2, none⟩) (Kd.R_far (p := ⟨gb337, 1, none⟩) (Kd.R_far (p := ⟨gb337, 0, none⟩) (Kd.R_mono HO_5.out (fun k_ hk => (⟨hk, hk.2⟩ : _ ∧ k_ ≠ gb337))) (fun _ hk => hk.2) (.int .i64 t333)) (fun _ hk => hk.2) (.int .i64 t334)) (fun _ hk => hk.2) (.string t335)) (fun _ h_ => h_.1))) hb); have n1_ := Aside0.mk (Kd.R_below (by (with_reducible repeat (first | apply Kd.R_alloc | apply Kd.R_drewN | apply Kd.R_drew)); exact (Kd.R_mono (Kd.R_far (p := ⟨gb337, 2, none⟩) (Kd.R_far (p := ⟨gb337, 1, none⟩) (Kd.R_far (p := ⟨gb337, 0, none⟩) (Kd.R_mono HO_6.out (fun k_ hk => (⟨hk, hk.2⟩ : _ ∧ k_ ≠ gb337))) (fun _ hk => hk.2) (.int .i64 t333)) (fun _ hk => hk.2) (.int .i64 t334)) (fun _ hk => hk.2) (.string t335)) (fun _ h_ => h_.1))) hb); have n2_ := Aside0.mk (Kd.R_below (by (with_reducible repeat (first | apply Kd.R_alloc | apply Kd.R_drewN | apply Kd.R_drew)); exact (Kd.R_mono (Kd.R_far (p := ⟨gb337, 2, none⟩) (Kd.R_far (p := ⟨gb337, 1, none⟩) (Kd.R_far (p := ⟨gb337, 0, none⟩) (Kd.R_mono HO_7.out (fun k_ hk => (⟨hk, hk.2⟩ : _ ∧ k_ ≠ gb337))) (fun _ hk => hk.2) (.int .i64 t333)) (fun _ hk => hk.2) (.int .i64 t334)) (fun _ hk => hk.2) (.string t335)) (fun _ h_ => h_.1))) hb); have n3_ := Aside0.mk (blk_below (g := gb327) (o := .cells #[.int .i64 t323, .int .i64 t324, .string t325] 23 (0, 0)) (by refine zB (blk_far ?_ NB327_337.out _); refine zB ?_; refine blk_far ?_ NB327_337.out _; refine zB (blk_far ?_ NB327_337.out _); refine zB ?_; exact BK327.out) hb); have n4_ := Aside0.mk (blk_below (g := gb332) (o := .cells #[.int .i64 t328, .int .i64 t329, .string t330] 23 (0, 0)) (by refine zB (blk_far ?_ NB332_337.out _); refine zB ?_; refine blk_far ?_ NB332_337.out _; refine zB (blk_far ?_ NB332_337.out _); refine zB ?_; exact BK332.out) hb); have n5_ := Aside0.mk (blk_below (g := gb337) (o := .cells #[.int .i64 t333, .int .i64 t334, .string t335] 23 (0, 0)) (by refine zB ?_; refine blk_put (cs := #[.int .i64 t333, .int .i64 t334, .string (⟨#[]⟩ : ByteArray)]) ?_ 2 _ rfl; refine zB ?_; refine blk_put (cs := #[.int .i64 t333, .int .i64 0, .string (⟨#[]⟩ : ByteArray)]) ?_ 1 _ rfl; refine zB ?_; refine blk_put (cs := #[.int .i64 0, .int .i64 0, .string (⟨#[]⟩ : ByteArray)]) ?_ 0 _ rfl; refine zB ?_; exact BK337.out) hb); have n6_ := Aside0.mk (below_step (by repeat first | with_reducible exact HB.out | apply zS | refine below_set ?_ GE327.out | refine below_set ?_ GE332.out | refine below_set ?_ GE337.out | exact HB.out) hb); clear HO_5; clear HO_6; clear HO_7; clear BK327; clear BK332; clear BK337; clear HB; have HO_5 := n0_; have HO_6 := n1_; have HO_7 := n2_; have BK327 := n3_; have BK332 := n4_; have BK337 := n5_; have HB := n6_; clear n0_ n1_ n2_ n3_ n4_ n5_ n6_; (try clear hb); (try clear hb2); (try clear hk); (try clear hi)) | ((with_reducible refine gate_dst (N := 21) rfl ?_); (try (refine gate_guard (by rfl) ?_; dsimp only)); refine box_event ?hg (N := 21) ?hd (cs := #[.int .i64 0, .int .i64 0, .string (⟨#[]⟩ : ByteArray)]) (t := 23) ?hr ?_; (case hd => rfl); (case hg => rfl); (case hr => first | (go_simp; done) | (go_simp; rfl)); intro gb342 hg w217 hbox hb; have n0_ := Aside0.mk (Kd.R_below (Kd.R_elderB (by (with_reducible repeat (first | apply Kd.R_alloc | apply Kd.R_drewN | apply Kd.R_drew)); exact HO_5.out) gb342 (Nat.le_of_eq hg.symm)) hb); have n1_ := Aside0.mk (Kd.R_below (Kd.R_elderB (by (with_reducible repeat (first | apply Kd.R_alloc | apply Kd.R_drewN | apply Kd.R_drew)); exact HO_6.out) gb342 (Nat.le_of_eq hg.symm)) hb); have n2_ := Aside0.mk (Kd.R_below (Kd.R_elderB (by (with_reducible repeat (first | apply Kd.R_alloc | apply Kd.R_drewN | apply Kd.R_drew)); exact HO_7.out) gb342 (Nat.le_of_eq hg.symm)) hb); have n3_ := Aside0.mk (blk_below (g := gb327) (o := .cells #[.int .i64 t323, .int .i64 t324, .string t325] 23 (0, 0)) (zB BK327.out) hb); have n4_ := Aside0.mk (blk_below (g := gb332) (o := .cells #[.int .i64 t328, .int .i64 t329, .string t330] 23 (0, 0)) (zB BK332.out) hb); have n5_ := Aside0.mk (blk_below (g := gb337) (o := .cells #[.int .i64 t333, .int .i64 t334, .string t335] 23 (0, 0)) (zB BK337.out) hb); have n6_ := Aside0.mk (below_step (by repeat first | with_reducible exact HB.out | apply zS | refine below_set ?_ GE327.out | refine below_set ?_ GE332.out | refine below_set ?_ GE337.out | exact HB.out) hb); have n7_ := Aside0.mk (hbox); have n8_ := Aside0.mk ((by rw [hg]; exact (below_size (by repeat first | with_reducible exact HB.out | apply zS | refine below_set ?_ GE327.out | refine below_set ?_ GE332.out | refine below_set ?_ GE337.out | exact HB.out)) : w.heap.size ≤ gb342)); have n9_ := n8_; have n10_ := Aside0.mk ((by rw [hg]; exact Nat.ne_of_lt (blk_lt (g := gb327) (o := .cells #[.int .i64 t323, .int .i64 t324, .string t325] 23 (0, 0)) (zB BK327.out)) : gb327 ≠ gb342)); have n11_ := Aside0.mk ((by rw [hg]; exact Nat.ne_of_gt (blk_lt (g := gb327) (o := .cells #[.int .i64 t323, .int .i64 t324, .string t325] 23 (0, 0)) (zB BK327.out)) : gb342 ≠ gb327)); have n12_ := Aside0.mk ((by rw [hg]; exact Nat.ne_of_lt (blk_lt (g := gb332) (o := .cells #[.int .i64 t328, .int .i64 t329, .string t330] 23 (0, 0)) (zB BK332.out)) : gb332 ≠ gb342)); have n13_ := Aside0.mk ((by rw [hg]; exact Nat.ne_of_gt (blk_lt (g := gb332) (o := .cells #[.int .i64 t328, .int .i64 t329, .string t330] 23 (0, 0)) (zB BK332.out)) : gb342 ≠ gb332)); have n14_ := Aside0.mk ((by rw [hg]; exact Nat.ne_of_lt (blk_lt (g := gb337) (o := .cells #[.int .i64 t333, .int .i64 t334, .string t335] 23 (0, 0)) (zB BK337.out)) : gb337 ≠ gb342)); have n15_ := Aside0.mk ((by rw [hg]; exact Nat.ne_of_gt (blk_lt (g := gb337) (o := .cells #[.int .i64 t333, .int .i64 t334, .string t335] 23 (0, 0)) (zB BK337.out)) : gb342 ≠ gb337)); clear HO_5; clear HO_6; clear HO_7; clear BK327; clear BK332; clear BK337; clear HB; have HO_5 := n0_; have HO_6 := n1_; have HO_7 := n2_; have BK327 := n3_; have BK332 := n4_; have BK337 := n5_; have HB := n6_; have BK342 := n7_; have GW342 := n8_; have GE342 := n9_; have NB327_342 := n10_; have NB342_327 := n11_; have NB332_342 := n12_; have NB342_332 := n13_; have NB337_342 := n14_; have NB342_337 := n15_; clear n0_ n1_ n2_ n3_ n4_ n5_ n6_ n7_ n8_ n9_ n10_ n11_ n12_ n13_ n14_ n15_; clear hb hbox hg; have hnb218 := NB342_327.out; have hnc218 := NB327_342.out; have hnb219 := NB342_332.out; have hnc219 := NB332_342.out; have hnb220 := NB342_337.out; have hnc220 := NB337_342.out; obtain ⟨hcz221_0, hcz221_1, hcz221_2, hfz221_0, hfz221_1, hfz221_2⟩ := zC3 BK342.out; obtain ⟨hcz222_0, hcz222_1, hcz222_2, hfz222_0, hfz222_1, hfz222_2⟩ := zC3 BK327.out; obtain ⟨hcz223_0, hcz223_1, hcz223_2, hfz223_0, hfz223_1, hfz223_2⟩ := zC3 BK332.out; obtain ⟨hcz224_0, hcz224_1, hcz224_2, hfz224_0, hfz224_1, hfz224_2⟩ := zC3 BK337.out) | (go_at_call 12; (with_reducible refine (pannierlaw10_wakes.calls  t343 _ ?side1 A200.out).mono ?_); (case side1 => exact gl_2_2 (by repeat first | with_reducible exact HB.out | apply zS | refine below_set ?_ GE327.out | refine below_set ?_ GE332.out | refine below_set ?_ GE337.out | refine below_set ?_ GE342.out | exact HB.out) hG); rintro e w225 ⟨rfl, hb⟩; have n0_ := Aside0.mk (Kd.R_below (by (with_reducible repeat (first | apply Kd.R_alloc | apply Kd.R_drewN | apply Kd.R_drew)); exact (Kd.R_mono (Kd.R_far (p := ⟨gb342, 2, none⟩) (Kd.R_far (p := ⟨gb342, 1, none⟩) (Kd.R_far (p := ⟨gb342, 0, none⟩) (Kd.R_mono HO_5.out (fun k_ hk => (⟨hk, hk.2⟩ : _ ∧ k_ ≠ gb342))) (fun _ hk => hk.2) (.int .i64 t338)) (fun _ hk => hk.2) (.int .i64 t339)) (fun _ hk => hk.2) (.string t340)) (fun _ h_ => h_.1))) hb); have n1_ := Aside0.mk (Kd.R_below (by (with_reducible repeat (first | apply Kd.R_alloc | apply Kd.R_drewN | apply Kd.R_drew)); exact (Kd.R_mono (Kd.R_far (p := ⟨gb342, 2, none⟩) (Kd.R_far (p := ⟨gb342, 1, none⟩) (Kd.R_far (p := ⟨gb342, 0, none⟩) (Kd.R_mono HO_6.out (fun k_ hk => (⟨hk, hk.2⟩ : _ ∧ k_ ≠ gb342))) (fun _ hk => hk.2) (.int .i64 t338)) (fun _ hk => hk.2) (.int .i64 t339)) (fun _ hk => hk.2) (.string t340)) (fun _ h_ => h_.1))) hb); have n2_ := Aside0.mk (Kd.R_below (by (with_reducible repeat (first | apply Kd.R_alloc | apply Kd.R_drewN | apply Kd.R_drew)); exact (Kd.R_mono (Kd.R_far (p := ⟨gb342, 2, none⟩) (Kd.R_far (p := ⟨gb342, 1, none⟩) (Kd.R_far (p := ⟨gb342, 0, none⟩) (Kd.R_mono HO_7.out (fun k_ hk => (⟨hk, hk.2⟩ : _ ∧ k_ ≠ gb342))) (fun _ hk => hk.2) (.int .i64 t338)) (fun _ hk => hk.2) (.int .i64 t339)) (fun _ hk => hk.2) (.string t340)) (fun _ h_ => h_.1))) hb); have n3_ := Aside0.mk (blk_below (g := gb327) (o := .cells #[.int .i64 t323, .int .i64 t324, .string t325] 23 (0, 0)) (by refine zB (blk_far ?_ NB327_342.out _); refine zB ?_; refine blk_far ?_ NB327_342.out _; refine zB (blk_far ?_ NB327_342.out _); refine zB ?_; exact BK327.out) hb); have n4_ := Aside0.mk (blk_below (g := gb332) (o := .cells #[.int .i64 t328, .int .i64 t329, .string t330] 23 (0, 0)) (by refine zB (blk_far ?_ NB332_342.out _); refine zB ?_; refine blk_far ?_ NB332_342.out _; refine zB (blk_far ?_ NB332_342.out _); refine zB ?_; exact BK332.out) hb); have n5_ := Aside0.mk (blk_below (g := gb337) (o := .cells #[.int .i64 t333, .int .i64 t334, .string t335] 23 (0, 0)) (by refine zB (blk_far ?_ NB337_342.out _); refine zB ?_; refine blk_far ?_ NB337_342.out _; refine zB (blk_far ?_ NB337_342.out _); refine zB ?_; exact BK337.out) hb); have n6_ := Aside0.mk (blk_below (g := gb342) (o := .cells #[.int .i64 t338, .int .i64 t339, .string t340] 23 (0, 0)) (by refine zB ?_; refine blk_put (cs := #[.int .i64 t338, .int .i64 t339, .string (⟨#[]⟩ : ByteArray)]) ?_ 2 _ rfl; refine zB ?_; refine blk_put (cs := #[.int .i64 t338, .int .i64 0, .string (⟨#[]⟩ : ByteArray)]) ?_ 1 _ rfl; refine zB ?_; refine blk_put (cs := #[.int .i64 0, .int .i64 0, .string (⟨#[]⟩ : ByteArray)]) ?_ 0 _ rfl; refine zB ?_; exact BK342.out) hb); have n7_ := Aside0.mk (below_step (by repeat first | with_reducible exact HB.out | apply zS | refine below_set ?_ GE327.out | refine below_set ?_ GE332.out | refine below_set ?_ GE337.out | refine below_set ?_ GE342.out | exact HB.out) hb); clear HO_5; clear HO_6; clear HO_7; clear BK327; clear BK332; clear BK337; clear BK342; clear HB; have HO_5 := n0_; have HO_6 := n1_; have HO_7 := n2_; have BK327 := n3_; have BK332 := n4_; have BK337 := n5_; have BK342 := n6_; have HB := n7_; clear n0_ n1_ n2_ n3_ n4_ n5_ n6_ n7_; (try clear hb); (try clear hb2); (try clear hk); (try clear hi)))
                                  go_ret
                                  exact ⟨by first | rfl | (simp [errW_none, errW_some] <;> rfl) | (simp [*, errW_none, errW_some] <;> rfl), by repeat first | with_reducible exact HB.out | apply zS | refine below_set ?_ GE327.out | refine below_set ?_ GE332.out | refine below_set ?_ GE337.out | refine below_set ?_ GE342.out | exact HB.out⟩
                                · rw [if_neg c199] at H
                                  exact absurd H (by simp)
                              · rw [if_neg c198] at H
                                exact absurd H (by simp)
                            · replace c197 := Bool.eq_false_iff.mpr c197
                              subst c197
                              have H1 : (none) = some r := by rw [if_neg (show ¬ (false = true) by decide)] at H; exact H
                              clear H
                              have H := H1
                              clear H1
                              exact absurd H (by simp)
                          · rw [if_neg c196] at H
                            exact absurd H (by simp)
                        · rw [if_neg c195] at H
                          exact absurd H (by simp)
                      · rw [if_neg c194] at H
                        exact absurd H (by simp)
                    · rw [if_neg c193] at H
                      exact absurd H (by simp)
end Go.Proofs.YtmdmpafdpgdpoaaDoor.P






namespace Go.Proofs.YtmdmpafdpgdpoaaDoor.P
open Go.RowKit Go.Proofs.YtmdmpafdpgdpoaaDoorW.PrintWords Go.Proofs.YtmdmpafdpgdpoaaDoorW.PrintLast Go.Proofs.YtmdmpafdpgdpoaaDoorW.PrintMore
open M (fit I64)
set_option linter.unusedVariables false
set_option linter.unusedSimpArgs false
theorem wakes10 : pannierlaw10_wakes.f = some true := by decide +kernel
theorem rdV {l : List S23} {i : Nat} (h : i < l.length) : rd_T23 l (i : Int) = l[i] := by
  unfold rd_T23; simp [List.getD_eq_getElem?_getD, h]
theorem wrap_next {i n : Nat} (h : i < n) (hn : n ≤ 4611686018427387904) : wrap64 ((i : Int) + 1) = ((i + 1 : Nat) : Int) := by
  rw [M.wrap64_id (by unfold I64; omega)]; omega
end Go.Proofs.YtmdmpafdpgdpoaaDoor.P

namespace Go.Proofs.YtmdmpafdpgdpoaaDoor.P
open Go.RowKit Go.Proofs.YtmdmpafdpgdpoaaDoorW.PrintWords Go.Proofs.YtmdmpafdpgdpoaaDoorW.PrintLast Go.Proofs.YtmdmpafdpgdpoaaDoorW.PrintMore
open M (fit I64 u64w dig itoaF)
set_option linter.unusedVariables false
set_option linter.unusedSimpArgs false
def noB : ByteArray := ⟨#[]⟩
theorem noB_list : noB.toList = [] := by rw [ByteArray.toList_eq]; rfl
def goodB (k n : Int) (s : ByteArray) : Bool := (value_Good.f k n s).getD false
theorem vgood_eq (k n : Int) (s : ByteArray) : value_Good.f k n s = some (goodB k n s) := by
  unfold goodB value_Good.f
  repeat' split
  all_goals rfl
theorem vfail_eq {n : Int} (h0 : 1 ≤ n) (h1 : n ≤ 8) : value_Fail.f n = some (4, n, noB) := by
  unfold value_Fail.f; rw [if_neg (by omega), if_neg (by omega)]; rfl
theorem vof_eq (s : ByteArray) : value_Of.f s = some (if s.size ≤ 200 then (3, 0, s) else (4, 7, noB)) := by
  unfold value_Of.f
  by_cases h : s.size ≤ 200
  · rw [if_neg (by omega), if_pos h]
  · rw [if_pos (by omega), if_neg h, vfail_eq (by omega) (by omega)]; rfl
theorem bytes_eq {s t : ByteArray} (h : s.toList = t.toList) : s = t := by
  rw [ByteArray.toList_eq, ByteArray.toList_eq] at h
  exact ByteArray.ext (Array.toList_inj.1 h)
theorem good_cases {k n : Int} {s : ByteArray} (h : goodB k n s = true) : (k = 0 ∧ n = 0 ∧ s = noB) ∨ (k = 1 ∧ (n = 0 ∨ n = 1) ∧ s = noB) ∨ (k = 2 ∧ s = noB) ∨ (k = 3 ∧ n = 0 ∧ s.size ≤ 200) ∨ (k = 4 ∧ 1 ≤ n ∧ n ≤ 8 ∧ s = noB) := by
  have hb : (s.toList == ([] : List UInt8)) = true → s = noB := fun h => bytes_eq (by rw [noB_list]; simpa using h)
  have hg := vgood_eq k n s
  rw [h] at hg
  unfold value_Good.f at hg
  split at hg
  · rename_i e; subst e
    split at hg
    · rename_i e; exact .inl ⟨rfl, e, hb (by simpa using hg)⟩
    · simp at hg
  · split at hg
    · rename_i e; subst e
      split at hg
      · rename_i e; exact .inr (.inl ⟨rfl, .inl e, hb (by simpa using hg)⟩)
      · split at hg
        · rename_i e; exact .inr (.inl ⟨rfl, .inr e, hb (by simpa using hg)⟩)
        · simp at hg
    · split at hg
      · rename_i e; exact .inr (.inr (.inl ⟨e, hb (by simpa using hg)⟩))
      · split at hg
        · rename_i e
          split at hg
          · rename_i e'; simp at hg; exact .inr (.inr (.inr (.inl ⟨e, e', by omega⟩)))
          · simp at hg
        · split at hg
          · rename_i e
            split at hg
            · split at hg
              · rename_i e1 e2; exact .inr (.inr (.inr (.inr ⟨e, e1, e2, hb (by simpa using hg)⟩)))
              · simp at hg
            · simp at hg
          · simp at hg
theorem good_text {s : ByteArray} (h : s.size ≤ 200) : goodB 3 0 s = true := by
  have := vgood_eq 3 0 s
  unfold value_Good.f at this
  simp at this
  rw [← this]; simp; omega
def faultV (k n : Int) (s : ByteArray) : Int × Int × ByteArray := if goodB k n s = true then (if k = 4 then (k, n, s) else (0, 0, noB)) else (4, 3, noB)
theorem fault_eq (k : Nat) (hk : 1 ≤ k) (t n : Int) (s : ByteArray) : value_fault.f k t n s = some (faultV t n s) := by
  obtain ⟨k, rfl⟩ : ∃ m, k = m + 1 := ⟨k - 1, by omega⟩
  unfold value_fault.f faultV
  by_cases h4 : t = 4
  · rw [if_pos h4, vgood_eq, Option.bind_some, value_fault.j0]
    by_cases hg : goodB t n s = true
    · rw [if_pos hg, if_pos hg, if_pos h4]
    · rw [if_neg hg, if_neg hg, vgood_eq, Option.bind_some, if_neg hg, vfail_eq (by omega) (by omega)]; rfl
  · rw [if_neg h4, value_fault.j0, if_neg (by simp), vgood_eq, Option.bind_some]
    by_cases hg : goodB t n s = true
    · rw [if_pos hg, if_pos hg, if_neg h4]; rfl
    · rw [if_neg hg, if_neg hg, vfail_eq (by omega) (by omega)]; rfl
end Go.Proofs.YtmdmpafdpgdpoaaDoor.P

namespace Go.Proofs.YtmdmpafdpgdpoaaDoor.P
open Go.RowKit Go.Proofs.YtmdmpafdpgdpoaaDoorW.PrintWords Go.Proofs.YtmdmpafdpgdpoaaDoorW.PrintLast Go.Proofs.YtmdmpafdpgdpoaaDoorW.PrintMore
open M (fit I64 u64w dig itoaF)
set_option linter.unusedVariables false
set_option linter.unusedSimpArgs false
def showS (k n : Int) (s : ByteArray) : ByteArray := if goodB k n s = true then (if k = 2 then bs (itoaF n) else if k = 1 then (if n = 1 then ⟨#[84, 82, 85, 69]⟩ else ⟨#[70, 65, 76, 83, 69]⟩) else if k = 4 then nm n.toNat else s) else ⟨#[63]⟩
theorem show_eq (k n : Int) (s : ByteArray) (hn : I64 n) : value_Show.f k n s = some (showS k n s) := by
  unfold value_Show.f showS
  rw [vgood_eq, Option.bind_some]
  by_cases hg : goodB k n s = true
  · rw [if_pos hg, if_pos hg]
    by_cases h2 : k = 2
    · rw [if_pos h2, if_pos h2, dec_one n hn]
    · rw [if_neg h2, if_neg h2]
      by_cases h1 : k = 1
      · rw [if_pos h1, if_pos h1]; split <;> rfl
      · rw [if_neg h1, if_neg h1]
        by_cases h4 : k = 4
        · rw [if_pos h4, if_pos h4]
          have : 0 ≤ n ∧ n < 9 := by rcases good_cases hg with h | h | h | h | h <;> omega
          rw [if_pos this]
        · rw [if_neg h4, if_neg h4]
  · rw [if_neg hg, if_neg hg]
def strV (k n : Int) (s : ByteArray) : ByteArray × Int × Int × ByteArray := if goodB k n s = true ∧ k ≠ 4 then (showS k n s, 0, 0, noB) else (noB, faultV k n s)
theorem fault_none {k n : Int} {s : ByteArray} (h : goodB k n s = true) (h4 : k ≠ 4) : faultV k n s = (0, 0, noB) := by unfold faultV; rw [if_pos h, if_neg h4]
theorem fault_some {k n : Int} {s : ByteArray} (h : ¬ (goodB k n s = true ∧ k ≠ 4)) : (faultV k n s).1 = 4 := by
  unfold faultV
  by_cases hg : goodB k n s = true
  · have h4 : k = 4 := by
      by_cases h4 : k = 4
      · exact h4
      · exact absurd ⟨hg, h4⟩ h
    rw [if_pos hg, if_pos h4, h4]
  · rw [if_neg hg]
theorem str_eq (r : Nat) (hr : 1 ≤ r) (k n : Int) (s : ByteArray) (hn : I64 n) : value_Str.f r k n s = some (strV k n s) := by
  unfold value_Str.f strV
  rw [fault_eq r hr, Option.bind_some]
  by_cases h : goodB k n s = true ∧ k ≠ 4
  · rw [if_pos h, fault_none h.1 h.2, if_pos rfl, show_eq k n s hn, Option.bind_some]; rfl
  · have := fault_some h
    rw [if_neg h, if_neg (by omega)]; rfl
def numV (k n : Int) (s : ByteArray) : Int × Int × Int × ByteArray :=
  if goodB k n s = true ∧ k ≠ 4 then (if k = 3 then (if (M.numParse s.data.toList).2 = true then ((M.numParse s.data.toList).1, 0, 0, noB) else (0, 4, 3, noB)) else (n, 0, 0, noB)) else (0, faultV k n s)
theorem num_eq (r : Nat) (hr : 1 ≤ r) (k n : Int) (s : ByteArray) : value_Num.f r k n s = some (numV k n s) := by
  unfold value_Num.f numV
  rw [fault_eq r hr, Option.bind_some]
  by_cases h : goodB k n s = true ∧ k ≠ 4
  · rw [if_pos h, fault_none h.1 h.2, if_pos rfl]
    by_cases h3 : k = 3
    · have hs : s.size ≤ 200 := by rcases good_cases h.1 with h | h | h | h | h <;> omega
      have hp : num_Parse.f s = some (M.numParse s.data.toList) := by unfold num_Parse.f; rw [if_pos (by omega)]
      rw [if_pos h3, if_pos h3, hp, Option.bind_some]
      by_cases hq : (M.numParse s.data.toList).2 = true
      · rw [if_pos hq, if_pos hq]; rfl
      · rw [if_neg hq, if_neg hq, vfail_eq (by omega) (by omega)]; rfl
    · rw [if_neg h3, if_neg h3]; rfl
  · have := fault_some h
    rw [if_neg h, if_neg (by omega)]
def yesS : List UInt8 := [84, 82, 85, 69]
def noS : List UInt8 := [70, 65, 76, 83, 69]
def flagV (k n : Int) (s : ByteArray) : Bool × Int × Int × ByteArray :=
  if goodB k n s = true ∧ k ≠ 4 then (if k = 3 then (if s.toList = yesS then (true, 0, 0, noB) else if s.toList = noS then (n != 0, 0, 0, noB) else (false, 4, 3, noB)) else (n != 0, 0, 0, noB)) else (false, faultV k n s)
theorem flag_eq (r : Nat) (hr : 1 ≤ r) (k n : Int) (s : ByteArray) : value_Flag.f r k n s = some (flagV k n s) := by
  obtain ⟨r, rfl⟩ : ∃ m, r = m + 1 := ⟨r - 1, by omega⟩
  unfold value_Flag.f flagV yesS noS
  rw [fault_eq _ hr, Option.bind_some]
  by_cases h : goodB k n s = true ∧ k ≠ 4
  · rw [if_pos h, fault_none h.1 h.2, if_pos rfl]
    by_cases h3 : k = 3
    · rw [if_pos h3, if_pos h3]
      by_cases hy : s.toList = ([84, 82, 85, 69] : List UInt8)
      · rw [if_pos hy, show (s.toList == [84, 82, 85, 69]) = true by simpa using hy, value_Flag.j0, if_pos rfl]; rfl
      · rw [if_neg hy, show (s.toList == [84, 82, 85, 69]) = false by simpa using hy, value_Flag.j0, if_neg (by simp), if_pos h3]
        by_cases hz : s.toList = ([70, 65, 76, 83, 69] : List UInt8)
        · rw [if_pos hz, if_pos hz]; rfl
        · rw [if_neg hz, if_neg hz, vfail_eq (by omega) (by omega)]; rfl
    · rw [if_neg h3, if_neg h3, value_Flag.j0, if_neg (by simp), if_neg h3]; rfl
  · have := fault_some h
    rw [if_neg h, if_neg (by omega)]
end Go.Proofs.YtmdmpafdpgdpoaaDoor.P

