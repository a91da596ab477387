/- Contracts of the functions that the law reaches, each with the plain function that it comes to, and plain facts about these. -/
import Derived.Laws.Bits64
import Derived.Laws.Bits64b
import Derived.Test.YtmdmpafdpgdpoaaDoorBFP1
import Derived.Test.YtmdmpafdpgdpoaaDoorBFP2
import Derived.Test.YtmdmpafdpgdpoaaDoorBFP3
namespace Go.Proofs.YtmdmpafdpgdpoaaDoor.P
open Go.RowKit Go.Proofs.YtmdmpafdpgdpoaaDoorW.PrintWords Go.Proofs.YtmdmpafdpgdpoaaDoorW.PrintLast Go.Proofs.YtmdmpafdpgdpoaaDoorW.PrintMore
attribute [local go_sem] max2_int min2_int max_two min_two max_three min_three max_four min_four   -- for this text's walks alone
set_option linter.unusedVariables false
set_option linter.unusedSimpArgs false
mutual
def pannierlaw10_FoldParts.j0 : Nat → List Int → List Int → Bool → Option (Bool)
  | 0, _, _, _ => none
  | k + 1, x0, x1, x36 => if x36 = true then ((pannierlaw10_wakes.f).bind fun t321 => (some t321)) else (pannierlaw10_FoldParts.l0 k x0 x1 ([] : List (S23)) 0)
def pannierlaw10_FoldParts.l0 : Nat → List Int → List Int → List (S23) → Int → Option (Bool)
  | 0, _, _, _, _ => none
  | k + 1, x0, x1, x5, x7 => if x7 < (x0.length : Int) then (if 0 ≤ x7 then ((pannierlaw10_num.f (wrap64 (rd x0 x7))).bind fun bt323 => (if x5.length < 4398046511104 then (pannierlaw10_FoldParts.l0 k x0 x1 (x5 ++ [(⟨bt323.1, bt323.2.1, bt323.2.2⟩ : S23)]) (wrap64 (x7 + 1))) else (none))) else (none)) else (pannierlaw10_FoldParts.l1 k x1 x5 ([] : List (S23)) 0)
def pannierlaw10_FoldParts.l1 : Nat → List Int → List (S23) → List (S23) → Int → Option (Bool)
  | 0, _, _, _, _ => none
  | k + 1, x1, x5, x6, x8 => if x8 < (x1.length : Int) then (if 0 ≤ x8 then ((pannierlaw10_num.f (wrap64 (rd x1 x8))).bind fun bt330 => (if x6.length < 4398046511104 then (pannierlaw10_FoldParts.l1 k x1 x5 (x6 ++ [(⟨bt330.1, bt330.2.1, bt330.2.2⟩ : S23)]) (wrap64 (x8 + 1))) else (none))) else (none)) else ((some (([] : List (S23)) : List (S23))).bind fun y336 => (if y336.length + x5.length < 4398046511104 then ((some (y336 ++ x5 : List (S23))).bind fun y339 => (if y339.length + x6.length < 4398046511104 then (pannierlaw10_FoldParts.l2 k x5 x6 (y339 ++ x6) (([(⟨#[83, 85, 77]⟩ : ByteArray), (⟨#[77, 73, 78]⟩ : ByteArray), (⟨#[77, 65, 88]⟩ : ByteArray), (⟨#[67, 79, 85, 78, 84]⟩ : ByteArray)] : List ByteArray)) 0) else (none))) else (none)))
def pannierlaw10_FoldParts.l2 : Nat → List (S23) → List (S23) → List (S23) → List ByteArray → Int → Option (Bool)
  | 0, _, _, _, _, _ => none
  | k + 1, x5, x6, x9, x10, x11 => if x11 < (x10.length : Int) then (if 0 ≤ x11 then ((fold_Of.f (rdOf ByteArray.empty x10 x11) x5).bind fun bt350 => ((fold_Of.f (rdOf ByteArray.empty x10 x11) x6).bind fun bt356 => ((fold_Of.f (rdOf ByteArray.empty x10 x11) x9).bind fun bt362 => (if (rdOf ByteArray.empty x10 x11).toList = ([77, 73, 78] : List UInt8) then (pannierlaw10_FoldParts.j4 k x5 x6 x9 x10 x11 bt362.2.2.2 (mn bt350.2.1 bt356.2.1) bt350.1 bt350.2.1 bt350.2.2.1 bt356.1 bt356.2.1 bt356.2.2.1 bt362.1 bt362.2.1 bt362.2.2.1) else (pannierlaw10_FoldParts.j4 k x5 x6 x9 x10 x11 bt362.2.2.2 (wrap64 (bt350.2.1 + bt356.2.1)) bt350.1 bt350.2.1 bt350.2.2.1 bt356.1 bt356.2.1 bt356.2.2.1 bt362.1 bt362.2.1 bt362.2.2.1))))) else (none)) else ((pannierlaw10_wakes.f).bind fun t348 => (some t348))
def pannierlaw10_FoldParts.j4 : Nat → List (S23) → List (S23) → List (S23) → List ByteArray → Int → Bool → Int → Int → Int → ByteArray → Int → Int → ByteArray → Int → Int → ByteArray → Option (Bool)
  | 0, _, _, _, _, _, _, _, _, _, _, _, _, _, _, _, _ => none
  | k + 1, x5, x6, x9, x10, x11, x17, x18, x355000, x355001, x355002, x361000, x361001, x361002, x367000, x367001, x367002 => if 0 ≤ x11 then (if x11 < (x10.length : Int) then (if (rdOf ByteArray.empty x10 x11).toList = ([77, 65, 88] : List UInt8) then (if x17 = true then (if x367000 = 2 then (if x367001 = (mx x355001 x361001) then (pannierlaw10_FoldParts.l2 k x5 x6 x9 x10 (wrap64 (x11 + 1))) else (none)) else (none)) else (none)) else (if x17 = true then (if x367000 = 2 then (if x367001 = x18 then (pannierlaw10_FoldParts.l2 k x5 x6 x9 x10 (wrap64 (x11 + 1))) else (none)) else (none)) else (none))) else (none)) else (none)
end
def pannierlaw10_FoldParts.f (k : Nat) (l0 : List Int) (l1 : List Int) : Option (Bool) := if (l0.length : Int) > 200 then (pannierlaw10_FoldParts.j0 k l0 l1 true) else (if (l1.length : Int) > 200 then (pannierlaw10_FoldParts.j0 k l0 l1 true) else (if (l0.length : Int) = 0 then (pannierlaw10_FoldParts.j0 k l0 l1 true) else (pannierlaw10_FoldParts.j0 k l0 l1 ((l1.length : Int) == 0))))
set_option maxHeartbeats 8000000 in
set_option maxRecDepth 100000 in
theorem pannierlaw10_FoldParts.calls (k : Nat) (A0 : Option Addr) (c0 : Nat) (l0 : List Int) (A1 : Option Addr) (c1 : Nat) (l1 : List Int) (r : Bool) (w : World) (hr0 : Kd.C (Kd.int .i32) w A0 l0.length l0) (hc0 : l0.length ≤ c0) (hr1 : Kd.C (Kd.int .i32) w A1 l1.length l1) (hc1 : l1.length ≤ c1) (hG : G2 w) (h : pannierlaw10_FoldParts.f k l0 l1 = some r) :
    Calls Tryd.prog 5 #[.slice A0 l0.length c0, .slice A1 l1.length c1] w fun e w' => e = .returned (.bool r) ∧ Below w.heap.size w w' := by
  have hu23 := Tryd.underlying23
  have HR0 := Aside0.mk hr0
  have HC0 := Aside0.mk hc0
  clear hr0 hc0
  have HR1 := Aside0.mk hr1
  have HC1 := Aside0.mk hc1
  clear hr1 hc1
  have HB := Aside0.mk (Below.refl w.heap.size w)
  have H : (if (l0.length : Int) > 200 then (pannierlaw10_FoldParts.j0 k l0 l1 true) else (if (l1.length : Int) > 200 then (pannierlaw10_FoldParts.j0 k l0 l1 true) else (if (l0.length : Int) = 0 then (pannierlaw10_FoldParts.j0 k l0 l1 true) else (pannierlaw10_FoldParts.j0 k l0 l1 ((l1.length : Int) == 0))))) = some r := h
  clear h
  have HC3 := Aside0.mk H
  clear H
  go_enter Tryd.func5, Tryd.ntmps5
  go_upto_region 1 with (fail)
  go_cut [36] (fun v36 wc => ∃ (kq : Nat) (x36_2 : Bool), v36 = .bool x36_2 ∧ Aside0 (pannierlaw10_FoldParts.j0 kq l0 l1 x36_2 = some r) ∧ Aside0 (kq ≤ k) ∧ Aside0 (Below w.heap.size w wc))
  case first =>
    have H := HC3.out
    clear HC3
    by_cases c4 : (l0.length : Int) > 200
    · rw [if_pos c4] at H
      have c4b0 : decide (200 < (l0.length : Int)) = true := decide_eq_true c4
      have c4b1 : decide (200 < l0.length) = true := decide_eq_true (by omega)
      clear c4
      (first | rw [c4b0] | (simp only [i64_w, i32_w]; rw [c4b0]) | skip)
      have H' := Aside0.mk H
      clear H
      go_wp2
      go_meet
      case rel => exact ⟨_, (true), (by first | rfl | (simp; done) | (simp [*]; done)), H', ⟨by first | omega | exact Nat.le_refl _⟩, ⟨by repeat (first | (with_reducible first | exact HB.out | apply below_alloc | apply pw_below_drewN | apply below_drew1) | exact HB.out)⟩⟩
    · rw [if_neg c4] at H
      have c4b0 : decide (200 < (l0.length : Int)) = false := decide_eq_false c4
      have c4b1 : decide (200 < l0.length) = false := decide_eq_false (by omega)
      clear c4
      (first | rw [c4b0] | (simp only [i64_w, i32_w]; rw [c4b0]) | skip)
      by_cases c5 : (l1.length : Int) > 200
      · rw [if_pos c5] at H
        have c5b0 : decide (200 < (l1.length : Int)) = true := decide_eq_true c5
        have c5b1 : decide (200 < l1.length) = true := decide_eq_true (by omega)
        clear c5
        have H' := Aside0.mk H
        clear H
        go_wp2
        go_meet
        case rel => exact ⟨_, (true), (by first | rfl | (simp; done) | (simp [*]; done)), H', ⟨by first | omega | exact Nat.le_refl _⟩, ⟨by repeat (first | (with_reducible first | exact HB.out | apply below_alloc | apply pw_below_drewN | apply below_drew1) | exact HB.out)⟩⟩
      · rw [if_neg c5] at H
        have c5b0 : decide (200 < (l1.length : Int)) = false := decide_eq_false c5
        have c5b1 : decide (200 < l1.length) = false := decide_eq_false (by omega)
        clear c5
        by_cases c6 : (l0.length : Int) = 0
        · rw [if_pos c6] at H
          have c6b0 : ((l0.length : Int) == 0) = true := beq_iff_eq.mpr c6
          have c6b1 : ((l0.length : Int) != 0) = false := bne_eq_false_iff_eq.mpr c6
          clear c6
          have H' := Aside0.mk H
          clear H
          go_wp2
          go_meet
          case rel => exact ⟨_, (true), (by first | rfl | (simp; done) | (simp [*]; done)), H', ⟨by first | omega | exact Nat.le_refl _⟩, ⟨by repeat (first | (with_reducible first | exact HB.out | apply below_alloc | apply pw_below_drewN | apply below_drew1) | exact HB.out)⟩⟩
        · rw [if_neg c6] at H
          have c6b0 : ((l0.length : Int) == 0) = false := beq_eq_false_iff_ne.mpr c6
          have c6b1 : ((l0.length : Int) != 0) = true := bne_iff_ne.mpr c6
          have c6b2 : ¬ (l0 = []) := fun h_ => c6 (by rw [h_]; rfl)
          have H' := Aside0.mk H
          clear H
          go_wp2
          go_meet
          case rel => exact ⟨_, (((l1.length : Int) == 0)), (by first | rfl | (simp; done) | (simp [*]; done)), H', ⟨by first | omega | exact Nat.le_refl _⟩, ⟨by repeat (first | (with_reducible first | exact HB.out | apply below_alloc | apply pw_below_drewN | apply below_drew1) | exact HB.out)⟩⟩
  case rest =>
    clear HC3
    try clear c1
    try clear p2
    try clear c4
    try clear c4b0
    try clear c4b1
    try clear c5
    try clear c5b0
    try clear c5b1
    try clear c6
    try clear c6b0
    try clear c6b1
    try clear c6b2
    obtain ⟨kq, x36_2, rfl, HA, HJ2, HB⟩ := hcut
    cases kq with
    | zero => exact absurd HA.out (by simp [pannierlaw10_FoldParts.j0])
    | succ kj2 =>
      have H := HA.out
      clear HA
      simp only [pannierlaw10_FoldParts.j0] at H
      by_cases c7 : x36_2 = true
      · subst c7
        have H1 : ((pannierlaw10_wakes.f).bind fun t321 => (some t321)) = some r := by rw [if_pos rfl] at H; exact H
        clear H
        have H := H1
        clear H1
        replace H := Option.bind_eq_some_iff.mp H
        obtain ⟨t321, A80, H⟩ := H
        replace H : (some t321) = some r := H
        have A8 := Aside0.mk A80
        clear A80
        obtain rfl := Option.some.inj H
        go_wp2_with (first | ((with_reducible refine gate_callee (f := 12) rfl ?_); refine goesL_ (some 37) rfl rfl Tryd.func12 (by kernel_rfl) rfl #[] rfl (by (try simp only [List.map_toArray, List.map_cons, List.map_nil]); first | done | rfl | (simp only [List.length_drop, List.length_take]; rfl)) ?_; (with_reducible refine (pannierlaw10_wakes.calls  t321 _ ?side1 A8.out).mono ?_); (case side1 => exact gl_2_2 (by repeat (first | (with_reducible first | exact HB.out | apply below_alloc | apply pw_below_drewN | apply below_drew1) | exact HB.out)) hG); rintro e w9 ⟨rfl, hb⟩; refine ⟨_, rfl, ?_⟩; have n0_ := Aside0.mk (below_step (by repeat (first | (with_reducible first | exact HB.out | apply below_alloc | apply pw_below_drewN | apply below_drew1) | exact HB.out)) hb); clear HB; have HB := n0_; clear n0_; (try clear hb); (try clear hb2); (try clear hk); (try clear hi)))
        go_ret
        exact ⟨by first | rfl | (simp [errW_none, errW_some] <;> rfl) | (simp [*, errW_none, errW_some] <;> rfl), by repeat (first | (with_reducible first | exact HB.out | apply below_alloc | apply pw_below_drewN | apply below_drew1) | exact HB.out)⟩
      · replace c7 := Bool.eq_false_iff.mpr c7
        subst c7
        have H1 : (pannierlaw10_FoldParts.l0 kj2 l0 l1 ([] : List (S23)) 0) = some r := by rw [if_neg (show ¬ (false = true) by decide)] at H; exact H
        clear H
        have H := H1
        clear H1
        have H' := Aside0.mk H
        clear H
        go_wp2
        go_loopg [5, 7] kj2 (fun kq v5 v7 w' => ∃ (x5_2 : List (S23)) (x7_2 : Int), v7 = .int .i64 x7_2 ∧ Aside0 (pannierlaw10_FoldParts.l0 kq l0 l1 x5_2 x7_2 = some r) ∧ Aside0 (kq ≤ kj2) ∧ Aside0 (Kd.R k23 23 w' w.heap.size (fun _ => True) v5 x5_2) ∧ Aside0 (Below w.heap.size w w'))
        case atStart => exact ⟨(([] : List (S23))), (0), (by first | rfl | (simp; done) | (simp [*]; done)), H', ⟨Nat.le_refl _⟩, ⟨by first | exact Kd.R_nil _ _ _ _ _ | exact Kd.N_nil _ _ _ _ _ | exact Kd.V_nil _ _ _ _ _ | exact Kd.Q_nil _ _ _ _ _ | exact Kd.S_nil _ _ _ _ _⟩, ⟨by repeat (first | (with_reducible first | exact HB.out | apply below_alloc | apply pw_below_drewN | apply below_drew1) | exact HB.out)⟩⟩
        case round =>
          clear H'
          try clear c1
          try clear p2
          try clear c4
          try clear c4b0
          try clear c4b1
          try clear c5
          try clear c5b0
          try clear c5b1
          try clear c6
          try clear c6b0
          try clear c6b1
          try clear c6b2
          try clear c7
          try clear p2
          obtain ⟨x5_2, x7_2, rfl, HA, HK2, HO_5, HB⟩ := hrel
          cases gk with
          | zero => exact absurd HA.out (by simp [pannierlaw10_FoldParts.l0])
          | succ k2 =>
            have H := HA.out
            clear HA
            simp only [pannierlaw10_FoldParts.l0] at H
            by_cases c10 : x7_2 < (l0.length : Int)
            · rw [if_pos c10] at H
              have c10b0 : decide (x7_2 < (l0.length : Int)) = true := decide_eq_true c10
              clear c10
              by_cases c11 : 0 ≤ x7_2
              · rw [if_pos c11] at H
                have c11b0 : decide (0 ≤ x7_2) = true := decide_eq_true c11
                clear c11
                replace H := Option.bind_eq_some_iff.mp H
                obtain ⟨⟨t323, t324, t325⟩, A120, H⟩ := H
                replace H : (if x5_2.length < 4398046511104 then (pannierlaw10_FoldParts.l0 k2 l0 l1 (x5_2 ++ [(⟨t323, t324, t325⟩ : S23)]) (wrap64 (x7_2 + 1))) else (none)) = some r := H
                have A12 := Aside0.mk A120
                clear A120
                by_cases c13 : x5_2.length < 4398046511104
                · rw [if_pos c13] at H
                  have LMc13 := Aside0.mk c13
                  clear c13
                  obtain ⟨y326, hy326⟩ : ∃ y_ : List (S23), y_ = (x5_2 ++ [(⟨t323, t324, t325⟩ : S23)]) := ⟨_, rfl⟩
                  replace H : (pannierlaw10_FoldParts.l0 k2 l0 l1 y326 (wrap64 (x7_2 + 1))) = some r := by first | (rw [hy326]; with_reducible exact H) | (have H2_ := (Option.bind_some _ _).symm.trans H; rw [hy326]; with_reducible exact H2_) | (have H2_ := (Option.bind_some _ _).symm.trans H; with_reducible exact H2_) | with_reducible exact H | (rw [hy326]; exact H) | exact H
                  have Ny326 := Aside0.mk hy326
                  clear hy326
                  have H' := Aside0.mk H
                  clear H
                  have p322 : 0 ≤ (x7_2 : Int) := of_decide_eq_true (by first | (with_reducible assumption) | assumption)
                  have q322 : x7_2 < (l0.length : Int) := of_decide_eq_true (by first | (with_reducible assumption) | assumption)
                  obtain ⟨ad322, e322, hx322_0⟩ := Kd.at_int HR0.out x7_2 p322 q322
                  cases e322
                  replace hx322_0 := (HB.out.cell (World.block_lt_of_cell? w _ hx322_0)).trans hx322_0
                  replace p322 := eq_true p322
                  replace q322 := eq_true q322
                  go_wp2_with (first | ((with_reducible refine gate_callee (f := 18) rfl ?_); refine goesL_ (some 50) rfl rfl Tryd.func18 (by kernel_rfl) rfl #[.int .i64 (wrap64 (rd l0 x7_2))] rfl (by (try simp only [List.map_toArray, List.map_cons, List.map_nil]); first | done | rfl | (simp only [List.length_drop, List.length_take]; rfl)) ?_; (with_reducible refine (pannierlaw10_num.calls (wrap64 (rd l0 x7_2)) t323 t324 t325 _ A12.out).mono ?_); rintro e w14 ⟨rfl, hb⟩; refine ⟨_, rfl, ?_⟩; have n0_ := Aside0.mk (Kd.R_below (by (with_reducible repeat (first | apply Kd.R_alloc | apply Kd.R_drewN | apply Kd.R_drew)); exact HO_5.out) hb); have n1_ := Aside0.mk (below_step (by repeat (first | (with_reducible first | exact HB.out | apply below_alloc | apply pw_below_drewN | apply below_drew1) | exact HB.out)) hb); clear HO_5; clear HB; have HO_5 := n0_; have HB := n1_; clear n0_ n1_; (try clear hb); (try clear hb2); (try clear hk); (try clear hi)) | ((with_reducible refine gate_builtin (b := .append) (xs := #[.tmp 44, .tmp 51]) rfl ?_); (try (refine gate_guard (by rfl) ?_; dsimp only)); at_builtin; refine Kd.R_append k23 (w0 := w) w.heap.size rfl (.tmp 44) (.tmp 51) 24 23 (.agg #[(.int .i64 0), (.int .i64 0), (.string ⟨#[]⟩)]) 32 rfl Tryd.underlying24 info23 rfl (by decide) (by omega) u5 x5_2 (⟨t323, t324, t325⟩ : S23) [.int .i64 t323, .int .i64 t324, .string t325] (fun _ => True) (fun _ => False) rfl rfl ?aP (fun _ hk => hk.elim) ?aF ?aO ?aB ?aS ?aL ?_; (case aP => exact k23_mkM _ _ _ (⟨t323, t324, t325⟩ : S23)); (case aB => exact (by repeat (first | (with_reducible first | exact HB.out | apply below_alloc | apply pw_below_drewN | apply below_drew1) | exact HB.out))); (case aF => exact (fun _ _ => trivial)); (case aO => exact (by (with_reducible repeat (first | apply Kd.R_alloc | apply Kd.R_drewN | apply Kd.R_drew)); exact HO_5.out)); (case aS => exact (below_size (by repeat (first | (with_reducible first | exact HB.out | apply below_alloc | apply pw_below_drewN | apply below_drew1) | exact HB.out)))); (case aL => have := LMc13.out; omega); intro v327 w15 ho hb hg hat; rw [← Ny326.out] at ho; have n0_ := Aside0.mk (hb); have n1_ := Aside0.mk (ho); clear HB; clear HO_5; have HB := n0_; have HO328 := n1_; clear n0_ n1_; clear ho hb hg hat))
                  go_roundg k2
                  case measure => have := HJ2.out; have := HK2.out; omega
                  case rel => exact ⟨(y326), (wrap64 (x7_2 + 1)), (by first | rfl | (simp; done) | (simp [*]; done)), H', ⟨by have := HJ2.out; have := HK2.out; omega⟩, ⟨by (with_reducible repeat (first | apply Kd.R_alloc | apply Kd.R_drewN | apply Kd.R_drew)); exact HO328.out⟩, ⟨by repeat (first | (with_reducible first | exact HB.out | apply below_alloc | apply pw_below_drewN | apply below_drew1) | exact HB.out)⟩⟩
                · rw [if_neg c13] at H
                  exact absurd H (by simp)
              · rw [if_neg c11] at H
                exact absurd H (by simp)
            · rw [if_neg c10] at H
              have c10b0 : decide (x7_2 < (l0.length : Int)) = false := decide_eq_false c10
              clear c10
              have H' := Aside0.mk H
              clear H
              go_wp2
              go_loopg [6, 8] k2 (fun kq v6 v8 w' => ∃ (x6_3 : List (S23)) (x8_3 : Int), v8 = .int .i64 x8_3 ∧ Aside0 (pannierlaw10_FoldParts.l1 kq l1 x5_2 x6_3 x8_3 = some r) ∧ Aside0 (kq ≤ k2) ∧ Aside0 (Kd.R k23 23 w' w.heap.size (fun k_ => some k_ ≠ (v6 : Value).ownBlock) u5 x5_2) ∧ Aside0 (Kd.R k23 23 w' w.heap.size (fun k_ => some k_ ≠ (u5 : Value).ownBlock) v6 x6_3) ∧ Aside0 (Below w.heap.size w w'))
              case atStart => exact ⟨(([] : List (S23))), (0), (by first | rfl | (simp; done) | (simp [*]; done)), H', ⟨Nat.le_refl _⟩, ⟨by (with_reducible repeat (first | apply Kd.R_alloc | apply Kd.R_drewN | apply Kd.R_drew)); exact Kd.R_mono HO_5.out (fun _ hk => (by simp [Value.ownBlock]))⟩, ⟨by first | exact Kd.R_nil _ _ _ _ _ | exact Kd.N_nil _ _ _ _ _ | exact Kd.V_nil _ _ _ _ _ | exact Kd.Q_nil _ _ _ _ _ | exact Kd.S_nil _ _ _ _ _⟩, ⟨by repeat (first | (with_reducible first | exact HB.out | apply below_alloc | apply pw_below_drewN | apply below_drew1) | exact HB.out)⟩⟩
              case round =>
                clear H'
                try clear c1
                try clear p2
                try clear p3
                try clear q3
                try clear hx3
                try clear c4
                try clear c4b0
                try clear c4b1
                try clear c5
                try clear c5b0
                try clear c5b1
                try clear c6
                try clear c6b0
                try clear c6b1
                try clear c6b2
                try clear p6
                try clear c7
                try clear c10
                try clear c10b0
                try clear c11
                try clear c11b0
                try clear c12
                try clear c13
                try clear hx322_0
                try clear p2
                try clear p322
                try clear q322
                obtain ⟨x6_3, x8_3, rfl, HA, HK3, HO_5, HO_6, HB⟩ := hrel
                cases gk with
                | zero => exact absurd HA.out (by simp [pannierlaw10_FoldParts.l1])
                | succ k3 =>
                  have H := HA.out
                  clear HA
                  simp only [pannierlaw10_FoldParts.l1] at H
                  by_cases c16 : x8_3 < (l1.length : Int)
                  · rw [if_pos c16] at H
                    have c16b0 : decide (x8_3 < (l1.length : Int)) = true := decide_eq_true c16
                    clear c16
                    by_cases c17 : 0 ≤ x8_3
                    · rw [if_pos c17] at H
                      have c17b0 : decide (0 ≤ x8_3) = true := decide_eq_true c17
                      clear c17
                      replace H := Option.bind_eq_some_iff.mp H
                      obtain ⟨⟨t330, t331, t332⟩, A180, H⟩ := H
                      replace H : (if x6_3.length < 4398046511104 then (pannierlaw10_FoldParts.l1 k3 l1 x5_2 (x6_3 ++ [(⟨t330, t331, t332⟩ : S23)]) (wrap64 (x8_3 + 1))) else (none)) = some r := H
                      have A18 := Aside0.mk A180
                      clear A180
                      by_cases c19 : x6_3.length < 4398046511104
                      · rw [if_pos c19] at H
                        have LMc19 := Aside0.mk c19
                        clear c19
                        obtain ⟨y333, hy333⟩ : ∃ y_ : List (S23), y_ = (x6_3 ++ [(⟨t330, t331, t332⟩ : S23)]) := ⟨_, rfl⟩
                        replace H : (pannierlaw10_FoldParts.l1 k3 l1 x5_2 y333 (wrap64 (x8_3 + 1))) = some r := by first | (rw [hy333]; with_reducible exact H) | (have H2_ := (Option.bind_some _ _).symm.trans H; rw [hy333]; with_reducible exact H2_) | (have H2_ := (Option.bind_some _ _).symm.trans H; with_reducible exact H2_) | with_reducible exact H | (rw [hy333]; exact H) | exact H
                        have Ny333 := Aside0.mk hy333
                        clear hy333
                        have H' := Aside0.mk H
                        clear H
                        have p329 : 0 ≤ (x8_3 : Int) := of_decide_eq_true (by first | (with_reducible assumption) | assumption)
                        have q329 : x8_3 < (l1.length : Int) := of_decide_eq_true (by first | (with_reducible assumption) | assumption)
                        obtain ⟨ad329, e329, hx329_0⟩ := Kd.at_int HR1.out x8_3 p329 q329
                        cases e329
                        replace hx329_0 := (HB.out.cell (World.block_lt_of_cell? w _ hx329_0)).trans hx329_0
                        replace p329 := eq_true p329
                        replace q329 := eq_true q329
                        go_wp2_with (first | ((with_reducible refine gate_callee (f := 18) rfl ?_); refine goesL_ (some 65) rfl rfl Tryd.func18 (by kernel_rfl) rfl #[.int .i64 (wrap64 (rd l1 x8_3))] rfl (by (try simp only [List.map_toArray, List.map_cons, List.map_nil]); first | done | rfl | (simp only [List.length_drop, List.length_take]; rfl)) ?_; (with_reducible refine (pannierlaw10_num.calls (wrap64 (rd l1 x8_3)) t330 t331 t332 _ A18.out).mono ?_); rintro e w20 ⟨rfl, hb⟩; refine ⟨_, rfl, ?_⟩; have n0_ := Aside0.mk (Kd.R_below (by (with_reducible repeat (first | apply Kd.R_alloc | apply Kd.R_drewN | apply Kd.R_drew)); exact HO_5.out) hb); have n1_ := Aside0.mk (Kd.R_below (by (with_reducible repeat (first | apply Kd.R_alloc | apply Kd.R_drewN | apply Kd.R_drew)); exact HO_6.out) hb); have n2_ := Aside0.mk (below_step (by repeat (first | (with_reducible first | exact HB.out | apply below_alloc | apply pw_below_drewN | apply below_drew1) | exact HB.out)) hb); clear HO_5; clear HO_6; clear HB; have HO_5 := n0_; have HO_6 := n1_; have HB := n2_; clear n0_ n1_ n2_; (try clear hb); (try clear hb2); (try clear hk); (try clear hi)) | ((with_reducible refine gate_builtin (b := .append) (xs := #[.tmp 59, .tmp 66]) rfl ?_); (try (refine gate_guard (by rfl) ?_; dsimp only)); at_builtin; refine Kd.R_append k23 (w0 := w) w.heap.size rfl (.tmp 59) (.tmp 66) 24 23 (.agg #[(.int .i64 0), (.int .i64 0), (.string ⟨#[]⟩)]) 32 rfl Tryd.underlying24 info23 rfl (by decide) (by omega) u6 x6_3 (⟨t330, t331, t332⟩ : S23) [.int .i64 t330, .int .i64 t331, .string t332] (fun k_ => some k_ ≠ (u5 : Value).ownBlock) (fun _ => False) rfl rfl ?aP (fun _ hk => hk.elim) ?aF ?aO ?aB ?aS ?aL ?_; (case aP => exact k23_mkM _ _ _ (⟨t330, t331, t332⟩ : S23)); (case aB => exact (by repeat (first | (with_reducible first | exact HB.out | apply below_alloc | apply pw_below_drewN | apply below_drew1) | exact HB.out))); (case aF => exact (fun k_ hk => Kd.fresh' (Kd.R_lt (by (with_reducible repeat (first | apply Kd.R_alloc | apply Kd.R_drewN | apply Kd.R_drew)); exact HO_5.out)) k_ hk)); (case aO => exact (by (with_reducible repeat (first | apply Kd.R_alloc | apply Kd.R_drewN | apply Kd.R_drew)); exact HO_6.out)); (case aS => exact (below_size (by repeat (first | (with_reducible first | exact HB.out | apply below_alloc | apply pw_below_drewN | apply below_drew1) | exact HB.out)))); (case aL => have := LMc19.out; omega); intro v334 w21 ho hb hg hat; rw [← Ny333.out] at ho; have n0_ := Aside0.mk (Kd.R_after (ok := (fun _ => True)) (by (with_reducible repeat (first | apply Kd.R_alloc | apply Kd.R_drewN | apply Kd.R_drew)); exact Kd.R_mono HO_5.out (fun _ hk => ⟨trivial, hk⟩)) hg hat); have n1_ := Aside0.mk (hb); have n2_ := Aside0.mk (ho); clear HO_5; clear HB; clear HO_6; have HO_5 := n0_; have HB := n1_; have HO335 := n2_; clear n0_ n1_ n2_; clear ho hb hg hat))
                        go_roundg k3
                        case measure => have := HJ2.out; have := HK2.out; have := HK3.out; omega
                        case rel => exact ⟨(y333), (wrap64 (x8_3 + 1)), (by first | rfl | (simp; done) | (simp [*]; done)), H', ⟨by have := HJ2.out; have := HK2.out; have := HK3.out; omega⟩, ⟨by (with_reducible repeat (first | apply Kd.R_alloc | apply Kd.R_drewN | apply Kd.R_drew)); exact Kd.R_mono HO_5.out (fun _ hk => hk.2)⟩, ⟨by (with_reducible repeat (first | apply Kd.R_alloc | apply Kd.R_drewN | apply Kd.R_drew)); exact HO335.out⟩, ⟨by repeat (first | (with_reducible first | exact HB.out | apply below_alloc | apply pw_below_drewN | apply below_drew1) | exact HB.out)⟩⟩
                      · rw [if_neg c19] at H
                        exact absurd H (by simp)
                    · rw [if_neg c17] at H
                      exact absurd H (by simp)
                  · rw [if_neg c16] at H
                    have c16b0 : decide (x8_3 < (l1.length : Int)) = false := decide_eq_false c16
                    clear c16
                    obtain ⟨y336, hy336⟩ : ∃ y_ : List (S23), y_ = (([] : List (S23))) := ⟨_, rfl⟩
                    replace H : (if y336.length + x5_2.length < 4398046511104 then ((some (y336 ++ x5_2 : List (S23))).bind fun y339 => (if y339.length + x6_3.length < 4398046511104 then (pannierlaw10_FoldParts.l2 k3 x5_2 x6_3 (y339 ++ x6_3) (([(⟨#[83, 85, 77]⟩ : ByteArray), (⟨#[77, 73, 78]⟩ : ByteArray), (⟨#[77, 65, 88]⟩ : ByteArray), (⟨#[67, 79, 85, 78, 84]⟩ : ByteArray)] : List ByteArray)) 0) else (none))) else (none)) = some r := by first | (rw [hy336]; with_reducible exact H) | (have H2_ := (Option.bind_some _ _).symm.trans H; rw [hy336]; with_reducible exact H2_) | (have H2_ := (Option.bind_some _ _).symm.trans H; with_reducible exact H2_) | with_reducible exact H | (rw [hy336]; exact H) | exact H
                    have Ny336 := Aside0.mk hy336
                    clear hy336
                    by_cases c22 : y336.length + x5_2.length < 4398046511104
                    · rw [if_pos c22] at H
                      have LMc22 := Aside0.mk c22
                      clear c22
                      obtain ⟨y339, hy339⟩ : ∃ y_ : List (S23), y_ = (y336 ++ x5_2) := ⟨_, rfl⟩
                      replace H : (if y339.length + x6_3.length < 4398046511104 then (pannierlaw10_FoldParts.l2 k3 x5_2 x6_3 (y339 ++ x6_3) (([(⟨#[83, 85, 77]⟩ : ByteArray), (⟨#[77, 73, 78]⟩ : ByteArray), (⟨#[77, 65, 88]⟩ : ByteArray), (⟨#[67, 79, 85, 78, 84]⟩ : ByteArray)] : List ByteArray)) 0) else (none)) = some r := by first | (rw [hy339]; with_reducible exact H) | (have H2_ := (Option.bind_some _ _).symm.trans H; rw [hy339]; with_reducible exact H2_) | (have H2_ := (Option.bind_some _ _).symm.trans H; with_reducible exact H2_) | with_reducible exact H | (rw [hy339]; exact H) | exact H
                      have Ny339 := Aside0.mk hy339
                      clear hy339
                      by_cases c23 : y339.length + x6_3.length < 4398046511104
                      · rw [if_pos c23] at H
                        have LMc23 := Aside0.mk c23
                        clear c23
                        obtain ⟨y342, hy342⟩ : ∃ y_ : List (S23), y_ = (y339 ++ x6_3) := ⟨_, rfl⟩
                        replace H : (pannierlaw10_FoldParts.l2 k3 x5_2 x6_3 y342 (([(⟨#[83, 85, 77]⟩ : ByteArray), (⟨#[77, 73, 78]⟩ : ByteArray), (⟨#[77, 65, 88]⟩ : ByteArray), (⟨#[67, 79, 85, 78, 84]⟩ : ByteArray)] : List ByteArray)) 0) = some r := by first | (rw [hy342]; with_reducible exact H) | (have H2_ := (Option.bind_some _ _).symm.trans H; rw [hy342]; with_reducible exact H2_) | (have H2_ := (Option.bind_some _ _).symm.trans H; with_reducible exact H2_) | with_reducible exact H | (rw [hy342]; exact H) | exact H
                        have Ny342 := Aside0.mk hy342
                        clear hy342
                        obtain ⟨y345, hy345⟩ : ∃ y_ : List ByteArray, y_ = (([(⟨#[83, 85, 77]⟩ : ByteArray), (⟨#[77, 73, 78]⟩ : ByteArray), (⟨#[77, 65, 88]⟩ : ByteArray), (⟨#[67, 79, 85, 78, 84]⟩ : ByteArray)] : List ByteArray)) := ⟨_, rfl⟩
                        replace H : (pannierlaw10_FoldParts.l2 k3 x5_2 x6_3 y342 y345 0) = some r := by first | (rw [hy345]; with_reducible exact H) | (have H2_ := (Option.bind_some _ _).symm.trans H; rw [hy345]; with_reducible exact H2_) | (have H2_ := (Option.bind_some _ _).symm.trans H; with_reducible exact H2_) | with_reducible exact H | (rw [hy345]; exact H) | exact H
                        have Ny345 := Aside0.mk hy345
                        clear hy345
                        have H' := Aside0.mk H
                        clear H
                        go_wp2_with (first | ((with_reducible refine gate_dst (N := 68) rfl ?_); (try (refine gate_guard (by rfl) ?_; dsimp only)); refine Kd.R_lit k23 _ 23 ?hg (N := 68) ?hd (xs := ([] : List (S23))) (inner := []) (ok := fun _ => True) (okp := fun _ => True) ?hr ?hp (fun _ hk => hk) trivial (Below.refl _ _) (Nat.le_refl _) (by simp) ?_; (case hd => rfl); (case hg => rfl); (case hr => first | (go_simp; done) | (go_simp; rfl)); (case hp => exact (Reps.none _ _)); intro v337 w24 ho25 hb hg_ hnew_; clear hg_ hnew_; (first | rw [← Ny336.out] at ho25 | (simp only [Int.reduceToNat] at ho25; rw [← Ny336.out] at ho25)); have n0_ := Aside0.mk (Kd.R_elder' (by (with_reducible repeat (first | apply Kd.R_alloc | apply Kd.R_drewN | apply Kd.R_drew)); exact HO_5.out) (Kd.R_base ho25) hb); have n1_ := Aside0.mk (Kd.R_elder' (by (with_reducible repeat (first | apply Kd.R_alloc | apply Kd.R_drewN | apply Kd.R_drew)); exact HO_6.out) (Kd.R_base ho25) hb); have n2_ := Aside0.mk (Kd.R_lower (Kd.R_new' (Kd.R_new' ho25 (Kd.R_lt (by (with_reducible repeat (first | apply Kd.R_alloc | apply Kd.R_drewN | apply Kd.R_drew)); exact HO_5.out))) (Kd.R_lt (by (with_reducible repeat (first | apply Kd.R_alloc | apply Kd.R_drewN | apply Kd.R_drew)); exact HO_6.out))) (below_size (by repeat (first | (with_reducible first | exact HB.out | apply below_alloc | apply pw_below_drewN | apply below_drew1) | exact HB.out)))); have n3_ := Aside0.mk (below_step (by repeat (first | (with_reducible first | exact HB.out | apply below_alloc | apply pw_below_drewN | apply below_drew1) | exact HB.out)) hb); clear HO_5; clear HO_6; clear HB; have HO_5 := n0_; have HO_6 := n1_; have HO338 := n2_; have HB := n3_; clear n0_ n1_ n2_ n3_; clear hb ho25; obtain ⟨Ao27, co27, eo27⟩ := Kd.R_slice HO_5.out; subst eo27) | ((with_reducible refine gate_builtin (b := .append) (xs := #[.tmp 68, .tmp 69]) rfl ?_); (try (refine gate_guard (by rfl) ?_; dsimp only)); at_builtin; refine Kd.R_append_rows k23 (w0 := w) w.heap.size rfl (.tmp 68) (.tmp 69) 24 23 (.agg #[(.int .i64 0), (.int .i64 0), (.string ⟨#[]⟩)]) 32 rfl Tryd.underlying24 info23 rfl (by decide) (by omega) v337 y336 x5_2 _ _ _ (fun k_ => some k_ ≠ (.slice Ao27 x5_2.length co27 : Value).ownBlock ∧ some k_ ≠ (u6 : Value).ownBlock) (fun _ => False) rfl rfl ?aO ?aR (fun _ _ h => h) (fun _ h => h.elim) ?aF ?aB ?aS ?aL ?_; (case aR => repeat (first | exact (Kd.R_reads' HO_5.out).2.2 | (with_reducible refine Kd.C_alloc ?_ _) | (with_reducible refine Kd.C_drewN ?_ _) | (with_reducible refine Kd.C_drew ?_))); (case aB => exact (by repeat (first | (with_reducible first | exact HB.out | apply below_alloc | apply pw_below_drewN | apply below_drew1) | exact HB.out))); (case aF => exact (fun k_ hk => ⟨Kd.fresh' (Kd.R_lt (by (with_reducible repeat (first | apply Kd.R_alloc | apply Kd.R_drewN | apply Kd.R_drew)); exact HO_5.out)) k_ hk, Kd.fresh' (Kd.R_lt (by (with_reducible repeat (first | apply Kd.R_alloc | apply Kd.R_drewN | apply Kd.R_drew)); exact HO_6.out)) k_ hk⟩)); (case aO => exact (by (with_reducible repeat (first | apply Kd.R_alloc | apply Kd.R_drewN | apply Kd.R_drew)); exact Kd.R_mono HO338.out (fun _ hk => ⟨hk.1.2, hk.2⟩))); (case aS => exact (below_size (by repeat (first | (with_reducible first | exact HB.out | apply below_alloc | apply pw_below_drewN | apply below_drew1) | exact HB.out)))); (case aL => have := LMc22.out; omega); intro v340 w26 ho hb hg hat; rw [← Ny339.out] at ho; have n0_ := Aside0.mk (Kd.R_after (ok := (fun k_ => some k_ ≠ (u6 : Value).ownBlock)) (by (with_reducible repeat (first | apply Kd.R_alloc | apply Kd.R_drewN | apply Kd.R_drew)); exact HO_5.out) hg hat); have n1_ := Aside0.mk (Kd.R_after (ok := (fun k_ => some k_ ≠ (.slice Ao27 x5_2.length co27 : Value).ownBlock)) (by (with_reducible repeat (first | apply Kd.R_alloc | apply Kd.R_drewN | apply Kd.R_drew)); exact HO_6.out) hg hat); have n2_ := Aside0.mk (hb); have n3_ := Aside0.mk (ho); clear HO_5; clear HO_6; clear HB; clear HO338; have HO_5 := n0_; have HO_6 := n1_; have HB := n2_; have HO341 := n3_; clear n0_ n1_ n2_ n3_; clear ho hb hg hat; obtain ⟨Ao29, co29, eo29⟩ := Kd.R_slice HO_6.out; subst eo29) | ((with_reducible refine gate_builtin (b := .append) (xs := #[.tmp 70, .tmp 71]) rfl ?_); (try (refine gate_guard (by rfl) ?_; dsimp only)); at_builtin; refine Kd.R_append_rows k23 (w0 := w) w.heap.size rfl (.tmp 70) (.tmp 71) 24 23 (.agg #[(.int .i64 0), (.int .i64 0), (.string ⟨#[]⟩)]) 32 rfl Tryd.underlying24 info23 rfl (by decide) (by omega) v340 y339 x6_3 _ _ _ (fun k_ => some k_ ≠ (.slice Ao27 x5_2.length co27 : Value).ownBlock ∧ some k_ ≠ (.slice Ao29 x6_3.length co29 : Value).ownBlock) (fun _ => False) rfl rfl ?aO ?aR (fun _ _ h => h) (fun _ h => h.elim) ?aF ?aB ?aS ?aL ?_; (case aR => repeat (first | exact (Kd.R_reads' HO_6.out).2.2 | (with_reducible refine Kd.C_alloc ?_ _) | (with_reducible refine Kd.C_drewN ?_ _) | (with_reducible refine Kd.C_drew ?_))); (case aB => exact (by repeat (first | (with_reducible first | exact HB.out | apply below_alloc | apply pw_below_drewN | apply below_drew1) | exact HB.out))); (case aF => exact (fun k_ hk => ⟨Kd.fresh' (Kd.R_lt (by (with_reducible repeat (first | apply Kd.R_alloc | apply Kd.R_drewN | apply Kd.R_drew)); exact HO_5.out)) k_ hk, Kd.fresh' (Kd.R_lt (by (with_reducible repeat (first | apply Kd.R_alloc | apply Kd.R_drewN | apply Kd.R_drew)); exact HO_6.out)) k_ hk⟩)); (case aO => exact (by (with_reducible repeat (first | apply Kd.R_alloc | apply Kd.R_drewN | apply Kd.R_drew)); exact HO341.out)); (case aS => exact (below_size (by repeat (first | (with_reducible first | exact HB.out | apply below_alloc | apply pw_below_drewN | apply below_drew1) | exact HB.out)))); (case aL => have := LMc23.out; omega); intro v343 w28 ho hb hg hat; rw [← Ny342.out] at ho; have n0_ := Aside0.mk (Kd.R_after (ok := (fun k_ => some k_ ≠ (.slice Ao29 x6_3.length co29 : Value).ownBlock)) (by (with_reducible repeat (first | apply Kd.R_alloc | apply Kd.R_drewN | apply Kd.R_drew)); exact HO_5.out) hg hat); have n1_ := Aside0.mk (Kd.R_after (ok := (fun k_ => some k_ ≠ (.slice Ao27 x5_2.length co27 : Value).ownBlock)) (by (with_reducible repeat (first | apply Kd.R_alloc | apply Kd.R_drewN | apply Kd.R_drew)); exact HO_6.out) hg hat); have n2_ := Aside0.mk (hb); have n3_ := Aside0.mk (ho); clear HO_5; clear HO_6; clear HB; clear HO341; have HO_5 := n0_; have HO_6 := n1_; have HB := n2_; have HO344 := n3_; clear n0_ n1_ n2_ n3_; clear ho hb hg hat) | ((with_reducible refine gate_dst (N := 73) rfl ?_); (try (refine gate_guard (by rfl) ?_; dsimp only)); refine Kd.R_lit Kd.string _ 9 ?hg (N := 73) ?hd (xs := ([(⟨#[83, 85, 77]⟩ : ByteArray), (⟨#[77, 73, 78]⟩ : ByteArray), (⟨#[77, 65, 88]⟩ : ByteArray), (⟨#[67, 79, 85, 78, 84]⟩ : ByteArray)] : List ByteArray)) (inner := [.string (⟨#[83, 85, 77]⟩ : ByteArray), .string (⟨#[77, 73, 78]⟩ : ByteArray), .string (⟨#[77, 65, 88]⟩ : ByteArray), .string (⟨#[67, 79, 85, 78, 84]⟩ : ByteArray)]) (ok := fun _ => True) (okp := fun _ => True) ?hr ?hp (fun _ hk => hk) trivial (Below.refl _ _) (Nat.le_refl _) (by simp) ?_; (case hd => rfl); (case hg => rfl); (case hr => first | (go_simp; done) | (go_simp; rfl)); (case hp => exact (Reps.one (show Kd.M Kd.string _ _ _ (⟨#[83, 85, 77]⟩ : ByteArray) [.string (⟨#[83, 85, 77]⟩ : ByteArray)] from rfl) (Reps.one (show Kd.M Kd.string _ _ _ (⟨#[77, 73, 78]⟩ : ByteArray) [.string (⟨#[77, 73, 78]⟩ : ByteArray)] from rfl) (Reps.one (show Kd.M Kd.string _ _ _ (⟨#[77, 65, 88]⟩ : ByteArray) [.string (⟨#[77, 65, 88]⟩ : ByteArray)] from rfl) (Reps.one (show Kd.M Kd.string _ _ _ (⟨#[67, 79, 85, 78, 84]⟩ : ByteArray) [.string (⟨#[67, 79, 85, 78, 84]⟩ : ByteArray)] from rfl) (Reps.none _ _)))))); intro v346 w30 ho31 hb hg_ hnew_; clear hg_ hnew_; (first | rw [← Ny345.out] at ho31 | (simp only [Int.reduceToNat] at ho31; rw [← Ny345.out] at ho31)); have n0_ := Aside0.mk (Kd.R_below (by (with_reducible repeat (first | apply Kd.R_alloc | apply Kd.R_drewN | apply Kd.R_drew)); exact HO_5.out) hb); have n1_ := Aside0.mk (Kd.R_below (by (with_reducible repeat (first | apply Kd.R_alloc | apply Kd.R_drewN | apply Kd.R_drew)); exact HO_6.out) hb); have n2_ := Aside0.mk (Kd.R_below (by (with_reducible repeat (first | apply Kd.R_alloc | apply Kd.R_drewN | apply Kd.R_drew)); exact HO344.out) hb); have n3_ := Aside0.mk (Kd.R_lower ho31 (below_size (by repeat (first | (with_reducible first | exact HB.out | apply below_alloc | apply pw_below_drewN | apply below_drew1) | exact HB.out)))); have n4_ := Aside0.mk (below_step (by repeat (first | (with_reducible first | exact HB.out | apply below_alloc | apply pw_below_drewN | apply below_drew1) | exact HB.out)) hb); clear HO_5; clear HO_6; clear HO344; clear HB; have HO_5 := n0_; have HO_6 := n1_; have HO344 := n2_; have HO347 := n3_; have HB := n4_; clear n0_ n1_ n2_ n3_ n4_; clear hb ho31))
                        go_loopg [11] k3 (fun kq v11 w' => ∃ (x11_4 : Int), v11 = .int .i64 x11_4 ∧ Aside0 (pannierlaw10_FoldParts.l2 kq x5_2 x6_3 y342 y345 x11_4 = some r) ∧ Aside0 (kq ≤ k3) ∧ Aside0 (Kd.R k23 23 w' w.heap.size (fun k_ => some k_ ≠ ((.slice Ao29 x6_3.length co29) : Value).ownBlock ∧ some k_ ≠ (v343 : Value).ownBlock) (.slice Ao27 x5_2.length co27) x5_2) ∧ Aside0 (Kd.R k23 23 w' w.heap.size (fun k_ => some k_ ≠ ((.slice Ao27 x5_2.length co27) : Value).ownBlock ∧ some k_ ≠ (v343 : Value).ownBlock) (.slice Ao29 x6_3.length co29) x6_3) ∧ Aside0 (Kd.R k23 23 w' w.heap.size (fun k_ => some k_ ≠ ((.slice Ao27 x5_2.length co27) : Value).ownBlock ∧ some k_ ≠ ((.slice Ao29 x6_3.length co29) : Value).ownBlock) v343 y342) ∧ Aside0 (Kd.R Kd.string 9 w' w.heap.size (fun _ => True) v346 y345) ∧ Aside0 (Below w.heap.size w w'))
                        case atStart => exact ⟨(0), (by first | rfl | (simp; done) | (simp [*]; done)), H', ⟨Nat.le_refl _⟩, ⟨by (with_reducible repeat (first | apply Kd.R_alloc | apply Kd.R_drewN | apply Kd.R_drew)); exact HO_5.out⟩, ⟨by (with_reducible repeat (first | apply Kd.R_alloc | apply Kd.R_drewN | apply Kd.R_drew)); exact HO_6.out⟩, ⟨by (with_reducible repeat (first | apply Kd.R_alloc | apply Kd.R_drewN | apply Kd.R_drew)); exact HO344.out⟩, ⟨by (with_reducible repeat (first | apply Kd.R_alloc | apply Kd.R_drewN | apply Kd.R_drew)); exact HO347.out⟩, ⟨by repeat (first | (with_reducible first | exact HB.out | apply below_alloc | apply pw_below_drewN | apply below_drew1) | exact HB.out)⟩⟩
                        case round =>
                          clear H'
                          try clear c1
                          try clear c2
                          try clear p2
                          try clear p3
                          try clear q3
                          try clear hx3
                          try clear c4
                          try clear c4b0
                          try clear c4b1
                          try clear c5
                          try clear c5b0
                          try clear c5b1
                          try clear c6
                          try clear c6b0
                          try clear c6b1
                          try clear c6b2
                          try clear p6
                          try clear c7
                          try clear c10
                          try clear c10b0
                          try clear c11
                          try clear c11b0
                          try clear c12
                          try clear c13
                          try clear c16
                          try clear c16b0
                          try clear c17
                          try clear c17b0
                          try clear c18
                          try clear c19
                          try clear c22
                          try clear c23
                          try clear hx322_0
                          try clear hx329_0
                          try clear p2
                          try clear p3
                          try clear p322
                          try clear p329
                          try clear p6
                          try clear q3
                          try clear q322
                          try clear q329
                          obtain ⟨x11_4, rfl, HA, HK4, HO_5, HO_6, HO_9, HO_10, HB⟩ := hrel
                          cases gk with
                          | zero => exact absurd HA.out (by simp [pannierlaw10_FoldParts.l2])
                          | succ k4 =>
                            have H := HA.out
                            clear HA
                            simp only [pannierlaw10_FoldParts.l2] at H
                            by_cases c32 : x11_4 < (y345.length : Int)
                            · rw [if_pos c32] at H
                              have c32b0 : decide (x11_4 < (y345.length : Int)) = true := decide_eq_true c32
                              clear c32
                              by_cases c33 : 0 ≤ x11_4
                              · rw [if_pos c33] at H
                                have c33b0 : decide (0 ≤ x11_4) = true := decide_eq_true c33
                                clear c33
                                replace H := Option.bind_eq_some_iff.mp H
                                obtain ⟨⟨t350, t351, t352, t353⟩, A340, H⟩ := H
                                replace H : ((fold_Of.f (rdOf ByteArray.empty y345 x11_4) x6_3).bind fun bt356 => ((fold_Of.f (rdOf ByteArray.empty y345 x11_4) y342).bind fun bt362 => (if (rdOf ByteArray.empty y345 x11_4).toList = ([77, 73, 78] : List UInt8) then (pannierlaw10_FoldParts.j4 k4 x5_2 x6_3 y342 y345 x11_4 bt362.2.2.2 (mn t351 bt356.2.1) t350 t351 t352 bt356.1 bt356.2.1 bt356.2.2.1 bt362.1 bt362.2.1 bt362.2.2.1) else (pannierlaw10_FoldParts.j4 k4 x5_2 x6_3 y342 y345 x11_4 bt362.2.2.2 (wrap64 (t351 + bt356.2.1)) t350 t351 t352 bt356.1 bt356.2.1 bt356.2.2.1 bt362.1 bt362.2.1 bt362.2.2.1)))) = some r := H
                                have A34 := Aside0.mk A340
                                clear A340
                                replace H := Option.bind_eq_some_iff.mp H
                                obtain ⟨⟨t356, t357, t358, t359⟩, A350, H⟩ := H
                                replace H : ((fold_Of.f (rdOf ByteArray.empty y345 x11_4) y342).bind fun bt362 => (if (rdOf ByteArray.empty y345 x11_4).toList = ([77, 73, 78] : List UInt8) then (pannierlaw10_FoldParts.j4 k4 x5_2 x6_3 y342 y345 x11_4 bt362.2.2.2 (mn t351 t357) t350 t351 t352 t356 t357 t358 bt362.1 bt362.2.1 bt362.2.2.1) else (pannierlaw10_FoldParts.j4 k4 x5_2 x6_3 y342 y345 x11_4 bt362.2.2.2 (wrap64 (t351 + t357)) t350 t351 t352 t356 t357 t358 bt362.1 bt362.2.1 bt362.2.2.1))) = some r := H
                                have A35 := Aside0.mk A350
                                clear A350
                                replace H := Option.bind_eq_some_iff.mp H
                                obtain ⟨⟨t362, t363, t364, t365⟩, A360, H⟩ := H
                                replace H : (if (rdOf ByteArray.empty y345 x11_4).toList = ([77, 73, 78] : List UInt8) then (pannierlaw10_FoldParts.j4 k4 x5_2 x6_3 y342 y345 x11_4 t365 (mn t351 t357) t350 t351 t352 t356 t357 t358 t362 t363 t364) else (pannierlaw10_FoldParts.j4 k4 x5_2 x6_3 y342 y345 x11_4 t365 (wrap64 (t351 + t357)) t350 t351 t352 t356 t357 t358 t362 t363 t364)) = some r := H
                                have A36 := Aside0.mk A360
                                clear A360
                                have HC37 := Aside0.mk H
                                clear H
                                obtain ⟨Ao38, co38, eo38⟩ := Kd.R_slice HO_10.out
                                subst eo38
                                have p349 : 0 ≤ (x11_4 : Int) := of_decide_eq_true (by first | (with_reducible assumption) | assumption)
                                have q349 : x11_4 < (y345.length : Int) := of_decide_eq_true (by first | (with_reducible assumption) | assumption)
                                obtain ⟨ad349, e349, hx349_0⟩ := Kd.at_string (Kd.R_reads' HO_10.out).2.2 x11_4 p349 q349
                                cases e349
                                replace p349 := eq_true p349
                                replace q349 := eq_true q349
                                go_upto_if 116 with (first | ((with_reducible refine gate_callee (f := 17) rfl ?_); refine goesL_ (some 86) rfl rfl Tryd.func17 (by kernel_rfl) rfl #[.string (rdOf ByteArray.empty y345 x11_4), .slice Ao27 x5_2.length co27] rfl (by (try simp only [List.map_toArray, List.map_cons, List.map_nil]); first | done | rfl | (simp only [List.length_drop, List.length_take]; rfl)) ?_; (with_reducible refine (fold_Of.calls (rdOf ByteArray.empty y345 x11_4) _ _ x5_2 t350 t351 t352 t353 _ ?side1 ?side2 ?side3 A34.out).mono ?_); (case side1 => repeat (first | exact (Kd.R_reads' HO_5.out).2.2 | (with_reducible refine Kd.C_alloc ?_ _) | (with_reducible refine Kd.C_drewN ?_ _) | (with_reducible refine Kd.C_drew ?_))); (case side2 => exact (Kd.R_reads' HO_5.out).2.1); (case side3 => exact gl_2_2 (by repeat (first | (with_reducible first | exact HB.out | apply below_alloc | apply pw_below_drewN | apply below_drew1) | exact HB.out)) hG); rintro e w39 ⟨rfl, hb⟩; refine ⟨_, rfl, ?_⟩; have n0_ := Aside0.mk (Kd.R_below (by (with_reducible repeat (first | apply Kd.R_alloc | apply Kd.R_drewN | apply Kd.R_drew)); exact HO_5.out) hb); have n1_ := Aside0.mk (Kd.R_below (by (with_reducible repeat (first | apply Kd.R_alloc | apply Kd.R_drewN | apply Kd.R_drew)); exact HO_6.out) hb); have n2_ := Aside0.mk (Kd.R_below (by (with_reducible repeat (first | apply Kd.R_alloc | apply Kd.R_drewN | apply Kd.R_drew)); exact HO_9.out) hb); have n3_ := Aside0.mk (Kd.R_below (by (with_reducible repeat (first | apply Kd.R_alloc | apply Kd.R_drewN | apply Kd.R_drew)); exact HO_10.out) hb); have n4_ := Aside0.mk (below_step (by repeat (first | (with_reducible first | exact HB.out | apply below_alloc | apply pw_below_drewN | apply below_drew1) | exact HB.out)) hb); clear HO_5; clear HO_6; clear HO_9; clear HO_10; clear HB; have HO_5 := n0_; have HO_6 := n1_; have HO_9 := n2_; have HO_10 := n3_; have HB := n4_; clear n0_ n1_ n2_ n3_ n4_; (try clear hb); (try clear hb2); (try clear hk); (try clear hi)) | ((with_reducible refine gate_dst (N := 12) rfl ?_); (try (refine gate_guard (by rfl) ?_; dsimp only)); refine box_event ?hg (N := 12) ?hd (cs := #[.int .i64 0, .int .i64 0, .string (⟨#[]⟩ : ByteArray)]) (t := 23) ?hr ?_; (case hd => rfl); (case hg => rfl); (case hr => first | (go_simp; done) | (go_simp; rfl)); intro gb354 hg w40 hbox hb; have n0_ := Aside0.mk (Kd.R_below (Kd.R_elderB (by (with_reducible repeat (first | apply Kd.R_alloc | apply Kd.R_drewN | apply Kd.R_drew)); exact HO_5.out) gb354 (Nat.le_of_eq hg.symm)) hb); have n1_ := Aside0.mk (Kd.R_below (Kd.R_elderB (by (with_reducible repeat (first | apply Kd.R_alloc | apply Kd.R_drewN | apply Kd.R_drew)); exact HO_6.out) gb354 (Nat.le_of_eq hg.symm)) hb); have n2_ := Aside0.mk (Kd.R_below (Kd.R_elderB (by (with_reducible repeat (first | apply Kd.R_alloc | apply Kd.R_drewN | apply Kd.R_drew)); exact HO_9.out) gb354 (Nat.le_of_eq hg.symm)) hb); have n3_ := Aside0.mk (Kd.R_below (by (with_reducible repeat (first | apply Kd.R_alloc | apply Kd.R_drewN | apply Kd.R_drew)); exact HO_10.out) hb); have n4_ := Aside0.mk (below_step (by repeat (first | (with_reducible first | exact HB.out | apply below_alloc | apply pw_below_drewN | apply below_drew1) | exact HB.out)) hb); have n5_ := Aside0.mk (hbox); have n6_ := Aside0.mk ((by rw [hg]; exact (below_size (by repeat (first | (with_reducible first | exact HB.out | apply below_alloc | apply pw_below_drewN | apply below_drew1) | exact HB.out))) : w.heap.size ≤ gb354)); have n7_ := Aside0.mk ((by rw [hg]; exact (below_size (by repeat (first | (with_reducible first | exact HB.out | apply below_alloc | apply pw_below_drewN | apply below_drew1) | exact HB.out))) : w.heap.size ≤ gb354)); clear HO_5; clear HO_6; clear HO_9; clear HO_10; clear HB; have HO_5 := n0_; have HO_6 := n1_; have HO_9 := n2_; have HO_10 := n3_; have HB := n4_; have BK354 := n5_; have GW354 := n6_; have GE354 := n7_; clear n0_ n1_ n2_ n3_ n4_ n5_ n6_ n7_; clear hb hbox hg; have hcz41_0 : w40.cell? ⟨gb354, 0, none⟩ = some (.int .i64 0) := (blk_cell BK354.out 0).trans rfl; have hcz41_1 : w40.cell? ⟨gb354, 1, none⟩ = some (.int .i64 0) := (blk_cell BK354.out 1).trans rfl; have hcz41_2 : w40.cell? ⟨gb354, 2, none⟩ = some (.string (⟨#[]⟩ : ByteArray)) := (blk_cell BK354.out 2).trans rfl; have hfz41_0 := blk_frozen BK354.out 0; have hfz41_1 := blk_frozen BK354.out 1; have hfz41_2 := blk_frozen BK354.out 2; have p355 : 0 ≤ (x11_4 : Int) := of_decide_eq_true (by first | (with_reducible assumption) | assumption); have q355 : x11_4 < (y345.length : Int) := of_decide_eq_true (by first | (with_reducible assumption) | assumption); obtain ⟨ad355, e355, hx355_0⟩ := Kd.at_string (Kd.R_reads' HO_10.out).2.2 x11_4 p355 q355; obtain rfl : ad349 = ad355 := (by injection e355); have hn355_0 : ad349.block ≠ gb354 := Kd.own_blk (Kd.R_ne HO_10.out BK354.out (by decide)); have hn355_1 : ad349.block ≠ gb354 := Kd.own_blk (Kd.R_ne HO_10.out BK354.out (by decide)); have hn355_2 : ad349.block ≠ gb354 := Kd.own_blk (Kd.R_ne HO_10.out BK354.out (by decide)); replace hx355_0 := (cell_far (p := ⟨gb354, 0, none⟩) (by first | (rw [add_block]; exact hn355_0) | (show (Addr.add _ _).block ≠ _; rw [add_block]; exact hn355_0) | exact hn355_0) (.int .i64 t350)).trans hx355_0; replace hx355_0 := (cell_far (p := ⟨gb354, 1, none⟩) (by first | (rw [add_block]; exact hn355_1) | (show (Addr.add _ _).block ≠ _; rw [add_block]; exact hn355_1) | exact hn355_1) (.int .i64 t351)).trans hx355_0; replace hx355_0 := (cell_far (p := ⟨gb354, 2, none⟩) (by first | (rw [add_block]; exact hn355_2) | (show (Addr.add _ _).block ≠ _; rw [add_block]; exact hn355_2) | exact hn355_2) (.string t352)).trans hx355_0; clear hn355_0; clear hn355_1; clear hn355_2; replace p355 := eq_true p355; replace q355 := eq_true q355) | ((with_reducible refine gate_callee (f := 17) rfl ?_); refine goesL_ (some 95) rfl rfl Tryd.func17 (by kernel_rfl) rfl #[.string (rdOf ByteArray.empty y345 x11_4), .slice Ao29 x6_3.length co29] rfl (by (try simp only [List.map_toArray, List.map_cons, List.map_nil]); first | done | rfl | (simp only [List.length_drop, List.length_take]; rfl)) ?_; (with_reducible refine (fold_Of.calls (rdOf ByteArray.empty y345 x11_4) _ _ x6_3 t356 t357 t358 t359 _ ?side1 ?side2 ?side3 A35.out).mono ?_); (case side1 => refine (Kd.R_reads' (e := 23) (base := w.heap.size) (ok := fun k_ => ((some k_ ≠ (.slice Ao27 x5_2.length co27 : Value).ownBlock ∧ some k_ ≠ (v343 : Value).ownBlock) ∧ k_ ≠ gb354)) (n := x6_3.length) (c := co29) ?_).2.2; exact (by (with_reducible repeat (first | apply Kd.R_alloc | apply Kd.R_drewN | apply Kd.R_drew)); exact (Kd.R_mono (Kd.R_far (p := ⟨gb354, 2, none⟩) (Kd.R_far (p := ⟨gb354, 1, none⟩) (Kd.R_far (p := ⟨gb354, 0, none⟩) (Kd.R_mono HO_6.out (fun k_ hk => (⟨hk, hk.2⟩ : _ ∧ k_ ≠ gb354))) (fun _ hk => hk.2) (.int .i64 t350)) (fun _ hk => hk.2) (.int .i64 t351)) (fun _ hk => hk.2) (.string t352)) (fun _ h_ => h_.1)))); (case side2 => exact (Kd.R_reads' HO_6.out).2.1); (case side3 => exact gl_2_2 (by repeat (first | (with_reducible first | exact HB.out | apply below_alloc | apply pw_below_drewN | apply below_drew1 | refine below_set ?_ GE354.out) | exact HB.out)) hG); rintro e w42 ⟨rfl, hb⟩; refine ⟨_, rfl, ?_⟩; have n0_ := Aside0.mk (Kd.R_below (by (with_reducible repeat (first | apply Kd.R_alloc | apply Kd.R_drewN | apply Kd.R_drew)); exact (Kd.R_mono (Kd.R_far (p := ⟨gb354, 2, none⟩) (Kd.R_far (p := ⟨gb354, 1, none⟩) (Kd.R_far (p := ⟨gb354, 0, none⟩) (Kd.R_mono HO_5.out (fun k_ hk => (⟨hk, hk.2⟩ : _ ∧ k_ ≠ gb354))) (fun _ hk => hk.2) (.int .i64 t350)) (fun _ hk => hk.2) (.int .i64 t351)) (fun _ hk => hk.2) (.string t352)) (fun _ h_ => h_.1))) hb); have n1_ := Aside0.mk (Kd.R_below (by (with_reducible repeat (first | apply Kd.R_alloc | apply Kd.R_drewN | apply Kd.R_drew)); exact (Kd.R_mono (Kd.R_far (p := ⟨gb354, 2, none⟩) (Kd.R_far (p := ⟨gb354, 1, none⟩) (Kd.R_far (p := ⟨gb354, 0, none⟩) (Kd.R_mono HO_6.out (fun k_ hk => (⟨hk, hk.2⟩ : _ ∧ k_ ≠ gb354))) (fun _ hk => hk.2) (.int .i64 t350)) (fun _ hk => hk.2) (.int .i64 t351)) (fun _ hk => hk.2) (.string t352)) (fun _ h_ => h_.1))) hb); have n2_ := Aside0.mk (Kd.R_below (by (with_reducible repeat (first | apply Kd.R_alloc | apply Kd.R_drewN | apply Kd.R_drew)); exact (Kd.R_mono (Kd.R_far (p := ⟨gb354, 2, none⟩) (Kd.R_far (p := ⟨gb354, 1, none⟩) (Kd.R_far (p := ⟨gb354, 0, none⟩) (Kd.R_mono HO_9.out (fun k_ hk => (⟨hk, hk.2⟩ : _ ∧ k_ ≠ gb354))) (fun _ hk => hk.2) (.int .i64 t350)) (fun _ hk => hk.2) (.int .i64 t351)) (fun _ hk => hk.2) (.string t352)) (fun _ h_ => h_.1))) hb); have n3_ := Aside0.mk (Kd.R_below (by (with_reducible repeat (first | apply Kd.R_alloc | apply Kd.R_drewN | apply Kd.R_drew)); exact (Kd.R_mono (Kd.R_far (p := ⟨gb354, 2, none⟩) (Kd.R_far (p := ⟨gb354, 1, none⟩) (Kd.R_far (p := ⟨gb354, 0, none⟩) (Kd.R_types HO_10.out BK354.out (by decide)) (fun _ hk => hk.2) (.int .i64 t350)) (fun _ hk => hk.2) (.int .i64 t351)) (fun _ hk => hk.2) (.string t352)) (fun _ h_ => h_.1))) hb); have n4_ := Aside0.mk (blk_below (g := gb354) (o := .cells #[.int .i64 t350, .int .i64 t351, .string t352] 23 (0, 0)) (by (with_reducible repeat (first | refine blk_drewN ?_ _ | refine blk_drew ?_ | refine blk_alloc ?_ _)); refine blk_put (cs := #[.int .i64 t350, .int .i64 t351, .string (⟨#[]⟩ : ByteArray)]) ?_ 2 _ rfl; (with_reducible repeat (first | refine blk_drewN ?_ _ | refine blk_drew ?_ | refine blk_alloc ?_ _)); refine blk_put (cs := #[.int .i64 t350, .int .i64 0, .string (⟨#[]⟩ : ByteArray)]) ?_ 1 _ rfl; (with_reducible repeat (first | refine blk_drewN ?_ _ | refine blk_drew ?_ | refine blk_alloc ?_ _)); refine blk_put (cs := #[.int .i64 0, .int .i64 0, .string (⟨#[]⟩ : ByteArray)]) ?_ 0 _ rfl; (with_reducible repeat (first | refine blk_drewN ?_ _ | refine blk_drew ?_ | refine blk_alloc ?_ _)); exact BK354.out) hb); have n5_ := Aside0.mk (below_step (by repeat (first | (with_reducible first | exact HB.out | apply below_alloc | apply pw_below_drewN | apply below_drew1 | refine below_set ?_ GE354.out) | exact HB.out)) hb); clear HO_5; clear HO_6; clear HO_9; clear HO_10; clear BK354; clear HB; have HO_5 := n0_; have HO_6 := n1_; have HO_9 := n2_; have HO_10 := n3_; have BK354 := n4_; have HB := n5_; clear n0_ n1_ n2_ n3_ n4_ n5_; (try clear hb); (try clear hb2); (try clear hk); (try clear hi)) | ((with_reducible refine gate_dst (N := 14) rfl ?_); (try (refine gate_guard (by rfl) ?_; dsimp only)); refine box_event ?hg (N := 14) ?hd (cs := #[.int .i64 0, .int .i64 0, .string (⟨#[]⟩ : ByteArray)]) (t := 23) ?hr ?_; (case hd => rfl); (case hg => rfl); (case hr => first | (go_simp; done) | (go_simp; rfl)); intro gb360 hg w43 hbox hb; have n0_ := Aside0.mk (Kd.R_below (Kd.R_elderB (by (with_reducible repeat (first | apply Kd.R_alloc | apply Kd.R_drewN | apply Kd.R_drew)); exact HO_5.out) gb360 (Nat.le_of_eq hg.symm)) hb); have n1_ := Aside0.mk (Kd.R_below (Kd.R_elderB (by (with_reducible repeat (first | apply Kd.R_alloc | apply Kd.R_drewN | apply Kd.R_drew)); exact HO_6.out) gb360 (Nat.le_of_eq hg.symm)) hb); have n2_ := Aside0.mk (Kd.R_below (Kd.R_elderB (by (with_reducible repeat (first | apply Kd.R_alloc | apply Kd.R_drewN | apply Kd.R_drew)); exact HO_9.out) gb360 (Nat.le_of_eq hg.symm)) hb); have n3_ := Aside0.mk (Kd.R_below (by (with_reducible repeat (first | apply Kd.R_alloc | apply Kd.R_drewN | apply Kd.R_drew)); exact HO_10.out) hb); have n4_ := Aside0.mk (blk_below (g := gb354) (o := .cells #[.int .i64 t350, .int .i64 t351, .string t352] 23 (0, 0)) (by (with_reducible repeat (first | refine blk_drewN ?_ _ | refine blk_drew ?_ | refine blk_alloc ?_ _)); exact BK354.out) hb); have n5_ := Aside0.mk (below_step (by repeat (first | (with_reducible first | exact HB.out | apply below_alloc | apply pw_below_drewN | apply below_drew1 | refine below_set ?_ GE354.out) | exact HB.out)) hb); have n6_ := Aside0.mk (hbox); have n7_ := Aside0.mk ((by rw [hg]; exact (below_size (by repeat (first | (with_reducible first | exact HB.out | apply below_alloc | apply pw_below_drewN | apply below_drew1 | refine below_set ?_ GE354.out) | exact HB.out))) : w.heap.size ≤ gb360)); have n8_ := Aside0.mk ((by rw [hg]; exact (below_size (by repeat (first | (with_reducible first | exact HB.out | apply below_alloc | apply pw_below_drewN | apply below_drew1 | refine below_set ?_ GE354.out) | exact HB.out))) : w.heap.size ≤ gb360)); have n9_ := Aside0.mk ((by rw [hg]; exact Nat.ne_of_lt (blk_lt (g := gb354) (o := .cells #[.int .i64 t350, .int .i64 t351, .string t352] 23 (0, 0)) (by (with_reducible repeat (first | refine blk_drewN ?_ _ | refine blk_drew ?_ | refine blk_alloc ?_ _)); exact BK354.out)) : gb354 ≠ gb360)); have n10_ := Aside0.mk ((by rw [hg]; exact Nat.ne_of_gt (blk_lt (g := gb354) (o := .cells #[.int .i64 t350, .int .i64 t351, .string t352] 23 (0, 0)) (by (with_reducible repeat (first | refine blk_drewN ?_ _ | refine blk_drew ?_ | refine blk_alloc ?_ _)); exact BK354.out)) : gb360 ≠ gb354)); clear HO_5; clear HO_6; clear HO_9; clear HO_10; clear BK354; clear HB; have HO_5 := n0_; have HO_6 := n1_; have HO_9 := n2_; have HO_10 := n3_; have BK354 := n4_; have HB := n5_; have BK360 := n6_; have GW360 := n7_; have GE360 := n8_; have NB354_360 := n9_; have NB360_354 := n10_; clear n0_ n1_ n2_ n3_ n4_ n5_ n6_ n7_ n8_ n9_ n10_; clear hb hbox hg; have hnb44 := NB360_354.out; have hnc44 := NB354_360.out; have hcz45_0 : w43.cell? ⟨gb360, 0, none⟩ = some (.int .i64 0) := (blk_cell BK360.out 0).trans rfl; have hcz45_1 : w43.cell? ⟨gb360, 1, none⟩ = some (.int .i64 0) := (blk_cell BK360.out 1).trans rfl; have hcz45_2 : w43.cell? ⟨gb360, 2, none⟩ = some (.string (⟨#[]⟩ : ByteArray)) := (blk_cell BK360.out 2).trans rfl; have hfz45_0 := blk_frozen BK360.out 0; have hfz45_1 := blk_frozen BK360.out 1; have hfz45_2 := blk_frozen BK360.out 2; have p361 : 0 ≤ (x11_4 : Int) := of_decide_eq_true (by first | (with_reducible assumption) | assumption); have q361 : x11_4 < (y345.length : Int) := of_decide_eq_true (by first | (with_reducible assumption) | assumption); obtain ⟨ad361, e361, hx361_0⟩ := Kd.at_string (Kd.R_reads' HO_10.out).2.2 x11_4 p361 q361; obtain rfl : ad349 = ad361 := (by injection e361); have hn361_0 : ad349.block ≠ gb360 := Kd.own_blk (Kd.R_ne HO_10.out BK360.out (by decide)); have hn361_1 : ad349.block ≠ gb360 := Kd.own_blk (Kd.R_ne HO_10.out BK360.out (by decide)); have hn361_2 : ad349.block ≠ gb360 := Kd.own_blk (Kd.R_ne HO_10.out BK360.out (by decide)); replace hx361_0 := (cell_far (p := ⟨gb360, 0, none⟩) (by first | (rw [add_block]; exact hn361_0) | (show (Addr.add _ _).block ≠ _; rw [add_block]; exact hn361_0) | exact hn361_0) (.int .i64 t356)).trans hx361_0; replace hx361_0 := (cell_far (p := ⟨gb360, 1, none⟩) (by first | (rw [add_block]; exact hn361_1) | (show (Addr.add _ _).block ≠ _; rw [add_block]; exact hn361_1) | exact hn361_1) (.int .i64 t357)).trans hx361_0; replace hx361_0 := (cell_far (p := ⟨gb360, 2, none⟩) (by first | (rw [add_block]; exact hn361_2) | (show (Addr.add _ _).block ≠ _; rw [add_block]; exact hn361_2) | exact hn361_2) (.string t358)).trans hx361_0; clear hn361_0; clear hn361_1; clear hn361_2; replace p361 := eq_true p361; replace q361 := eq_true q361; obtain ⟨Ao46, co46, eo46⟩ := Kd.R_slice HO_9.out; subst eo46) | ((with_reducible refine gate_callee (f := 17) rfl ?_); refine goesL_ (some 104) rfl rfl Tryd.func17 (by kernel_rfl) rfl #[.string (rdOf ByteArray.empty y345 x11_4), .slice Ao46 y342.length co46] rfl (by (try simp only [List.map_toArray, List.map_cons, List.map_nil]); first | done | rfl | (simp only [List.length_drop, List.length_take]; rfl)) ?_; (with_reducible refine (fold_Of.calls (rdOf ByteArray.empty y345 x11_4) _ _ y342 t362 t363 t364 t365 _ ?side1 ?side2 ?side3 A36.out).mono ?_); (case side1 => refine (Kd.R_reads' (e := 23) (base := w.heap.size) (ok := fun k_ => (((some k_ ≠ (.slice Ao27 x5_2.length co27 : Value).ownBlock ∧ some k_ ≠ (.slice Ao29 x6_3.length co29 : Value).ownBlock) ∧ k_ ≠ gb354) ∧ k_ ≠ gb360)) (n := y342.length) (c := co46) ?_).2.2; exact (by (with_reducible repeat (first | apply Kd.R_alloc | apply Kd.R_drewN | apply Kd.R_drew)); exact (Kd.R_mono (Kd.R_far (p := ⟨gb360, 2, none⟩) (Kd.R_far (p := ⟨gb360, 1, none⟩) (Kd.R_far (p := ⟨gb360, 0, none⟩) (Kd.R_mono HO_9.out (fun k_ hk => (⟨hk, hk.2⟩ : _ ∧ k_ ≠ gb360))) (fun _ hk => hk.2) (.int .i64 t356)) (fun _ hk => hk.2) (.int .i64 t357)) (fun _ hk => hk.2) (.string t358)) (fun _ h_ => h_.1)))); (case side2 => exact (Kd.R_reads' HO_9.out).2.1); (case side3 => exact gl_2_2 (by repeat (first | (with_reducible first | exact HB.out | apply below_alloc | apply pw_below_drewN | apply below_drew1 | refine below_set ?_ GE354.out | refine below_set ?_ GE360.out) | exact HB.out)) hG); rintro e w47 ⟨rfl, hb⟩; refine ⟨_, rfl, ?_⟩; have n0_ := Aside0.mk (Kd.R_below (by (with_reducible repeat (first | apply Kd.R_alloc | apply Kd.R_drewN | apply Kd.R_drew)); exact (Kd.R_mono (Kd.R_far (p := ⟨gb360, 2, none⟩) (Kd.R_far (p := ⟨gb360, 1, none⟩) (Kd.R_far (p := ⟨gb360, 0, none⟩) (Kd.R_mono HO_5.out (fun k_ hk => (⟨hk, hk.2⟩ : _ ∧ k_ ≠ gb360))) (fun _ hk => hk.2) (.int .i64 t356)) (fun _ hk => hk.2) (.int .i64 t357)) (fun _ hk => hk.2) (.string t358)) (fun _ h_ => h_.1))) hb); have n1_ := Aside0.mk (Kd.R_below (by (with_reducible repeat (first | apply Kd.R_alloc | apply Kd.R_drewN | apply Kd.R_drew)); exact (Kd.R_mono (Kd.R_far (p := ⟨gb360, 2, none⟩) (Kd.R_far (p := ⟨gb360, 1, none⟩) (Kd.R_far (p := ⟨gb360, 0, none⟩) (Kd.R_mono HO_6.out (fun k_ hk => (⟨hk, hk.2⟩ : _ ∧ k_ ≠ gb360))) (fun _ hk => hk.2) (.int .i64 t356)) (fun _ hk => hk.2) (.int .i64 t357)) (fun _ hk => hk.2) (.string t358)) (fun _ h_ => h_.1))) hb); have n2_ := Aside0.mk (Kd.R_below (by (with_reducible repeat (first | apply Kd.R_alloc | apply Kd.R_drewN | apply Kd.R_drew)); exact (Kd.R_mono (Kd.R_far (p := ⟨gb360, 2, none⟩) (Kd.R_far (p := ⟨gb360, 1, none⟩) (Kd.R_far (p := ⟨gb360, 0, none⟩) (Kd.R_mono HO_9.out (fun k_ hk => (⟨hk, hk.2⟩ : _ ∧ k_ ≠ gb360))) (fun _ hk => hk.2) (.int .i64 t356)) (fun _ hk => hk.2) (.int .i64 t357)) (fun _ hk => hk.2) (.string t358)) (fun _ h_ => h_.1))) hb); have n3_ := Aside0.mk (Kd.R_below (by (with_reducible repeat (first | apply Kd.R_alloc | apply Kd.R_drewN | apply Kd.R_drew)); exact (Kd.R_mono (Kd.R_far (p := ⟨gb360, 2, none⟩) (Kd.R_far (p := ⟨gb360, 1, none⟩) (Kd.R_far (p := ⟨gb360, 0, none⟩) (Kd.R_types HO_10.out BK360.out (by decide)) (fun _ hk => hk.2) (.int .i64 t356)) (fun _ hk => hk.2) (.int .i64 t357)) (fun _ hk => hk.2) (.string t358)) (fun _ h_ => h_.1))) hb); have n4_ := Aside0.mk (blk_below (g := gb354) (o := .cells #[.int .i64 t350, .int .i64 t351, .string t352] 23 (0, 0)) (by (with_reducible repeat (first | refine blk_drewN ?_ _ | refine blk_drew ?_ | refine blk_alloc ?_ _)); refine blk_far ?_ NB354_360.out _; (with_reducible repeat (first | refine blk_drewN ?_ _ | refine blk_drew ?_ | refine blk_alloc ?_ _)); refine blk_far ?_ NB354_360.out _; (with_reducible repeat (first | refine blk_drewN ?_ _ | refine blk_drew ?_ | refine blk_alloc ?_ _)); refine blk_far ?_ NB354_360.out _; (with_reducible repeat (first | refine blk_drewN ?_ _ | refine blk_drew ?_ | refine blk_alloc ?_ _)); exact BK354.out) hb); have n5_ := Aside0.mk (blk_below (g := gb360) (o := .cells #[.int .i64 t356, .int .i64 t357, .string t358] 23 (0, 0)) (by (with_reducible repeat (first | refine blk_drewN ?_ _ | refine blk_drew ?_ | refine blk_alloc ?_ _)); refine blk_put (cs := #[.int .i64 t356, .int .i64 t357, .string (⟨#[]⟩ : ByteArray)]) ?_ 2 _ rfl; (with_reducible repeat (first | refine blk_drewN ?_ _ | refine blk_drew ?_ | refine blk_alloc ?_ _)); refine blk_put (cs := #[.int .i64 t356, .int .i64 0, .string (⟨#[]⟩ : ByteArray)]) ?_ 1 _ rfl; (with_reducible repeat (first | refine blk_drewN ?_ _ | refine blk_drew ?_ | refine blk_alloc ?_ _)); refine blk_put (cs := #[.int .i64 0, .int .i64 0, .string (⟨#[]⟩ : ByteArray)]) ?_ 0 _ rfl; (with_reducible repeat (first | refine blk_drewN ?_ _ | refine blk_drew ?_ | refine blk_alloc ?_ _)); exact BK360.out) hb); have n6_ := Aside0.mk (below_step (by repeat (first | (with_reducible first | exact HB.out | apply below_alloc | apply pw_below_drewN | apply below_drew1 | refine below_set ?_ GE354.out | refine below_set ?_ GE360.out) | exact HB.out)) hb); clear HO_5; clear HO_6; clear HO_9; clear HO_10; clear BK354; clear BK360; clear HB; have HO_5 := n0_; have HO_6 := n1_; have HO_9 := n2_; have HO_10 := n3_; have BK354 := n4_; have BK360 := n5_; have HB := n6_; clear n0_ n1_ n2_ n3_ n4_ n5_ n6_; (try clear hb); (try clear hb2); (try clear hk); (try clear hi)) | ((with_reducible refine gate_dst (N := 16) rfl ?_); (try (refine gate_guard (by rfl) ?_; dsimp only)); refine box_event ?hg (N := 16) ?hd (cs := #[.int .i64 0, .int .i64 0, .string (⟨#[]⟩ : ByteArray)]) (t := 23) ?hr ?_; (case hd => rfl); (case hg => rfl); (case hr => first | (go_simp; done) | (go_simp; rfl)); intro gb366 hg w48 hbox hb; have n0_ := Aside0.mk (Kd.R_below (Kd.R_elderB (by (with_reducible repeat (first | apply Kd.R_alloc | apply Kd.R_drewN | apply Kd.R_drew)); exact HO_5.out) gb366 (Nat.le_of_eq hg.symm)) hb); have n1_ := Aside0.mk (Kd.R_below (Kd.R_elderB (by (with_reducible repeat (first | apply Kd.R_alloc | apply Kd.R_drewN | apply Kd.R_drew)); exact HO_6.out) gb366 (Nat.le_of_eq hg.symm)) hb); have n2_ := Aside0.mk (Kd.R_below (Kd.R_elderB (by (with_reducible repeat (first | apply Kd.R_alloc | apply Kd.R_drewN | apply Kd.R_drew)); exact HO_9.out) gb366 (Nat.le_of_eq hg.symm)) hb); have n3_ := Aside0.mk (Kd.R_below (by (with_reducible repeat (first | apply Kd.R_alloc | apply Kd.R_drewN | apply Kd.R_drew)); exact HO_10.out) hb); have n4_ := Aside0.mk (blk_below (g := gb354) (o := .cells #[.int .i64 t350, .int .i64 t351, .string t352] 23 (0, 0)) (by (with_reducible repeat (first | refine blk_drewN ?_ _ | refine blk_drew ?_ | refine blk_alloc ?_ _)); exact BK354.out) hb); have n5_ := Aside0.mk (blk_below (g := gb360) (o := .cells #[.int .i64 t356, .int .i64 t357, .string t358] 23 (0, 0)) (by (with_reducible repeat (first | refine blk_drewN ?_ _ | refine blk_drew ?_ | refine blk_alloc ?_ _)); exact BK360.out) hb); have n6_ := Aside0.mk (below_step (by repeat (first | (with_reducible first | exact HB.out | apply below_alloc | apply pw_below_drewN | apply below_drew1 | refine below_set ?_ GE354.out | refine below_set ?_ GE360.out) | exact HB.out)) hb); have n7_ := Aside0.mk (hbox); have n8_ := Aside0.mk ((by rw [hg]; exact (below_size (by repeat (first | (with_reducible first | exact HB.out | apply below_alloc | apply pw_below_drewN | apply below_drew1 | refine below_set ?_ GE354.out | refine below_set ?_ GE360.out) | exact HB.out))) : w.heap.size ≤ gb366)); have n9_ := Aside0.mk ((by rw [hg]; exact (below_size (by repeat (first | (with_reducible first | exact HB.out | apply below_alloc | apply pw_below_drewN | apply below_drew1 | refine below_set ?_ GE354.out | refine below_set ?_ GE360.out) | exact HB.out))) : w.heap.size ≤ gb366)); have n10_ := Aside0.mk ((by rw [hg]; exact Nat.ne_of_lt (blk_lt (g := gb354) (o := .cells #[.int .i64 t350, .int .i64 t351, .string t352] 23 (0, 0)) (by (with_reducible repeat (first | refine blk_drewN ?_ _ | refine blk_drew ?_ | refine blk_alloc ?_ _)); exact BK354.out)) : gb354 ≠ gb366)); have n11_ := Aside0.mk ((by rw [hg]; exact Nat.ne_of_gt (blk_lt (g := gb354) (o := .cells #[.int .i64 t350, .int .i64 t351, .string t352] 23 (0, 0)) (by (with_reducible repeat (first | refine blk_drewN ?_ _ | refine blk_drew ?_ | refine blk_alloc ?_ _)); exact BK354.out)) : gb366 ≠ gb354)); have n12_ := Aside0.mk ((by rw [hg]; exact Nat.ne_of_lt (blk_lt (g := gb360) (o := .cells #[.int .i64 t356, .int .i64 t357, .string t358] 23 (0, 0)) (by (with_reducible repeat (first | refine blk_drewN ?_ _ | refine blk_drew ?_ | refine blk_alloc ?_ _)); exact BK360.out)) : gb360 ≠ gb366)); have n13_ := Aside0.mk ((by rw [hg]; exact Nat.ne_of_gt (blk_lt (g := gb360) (o := .cells #[.int .i64 t356, .int .i64 t357, .string t358] 23 (0, 0)) (by (with_reducible repeat (first | refine blk_drewN ?_ _ | refine blk_drew ?_ | refine blk_alloc ?_ _)); exact BK360.out)) : gb366 ≠ gb360)); clear HO_5; clear HO_6; clear HO_9; clear HO_10; clear BK354; clear BK360; clear HB; have HO_5 := n0_; have HO_6 := n1_; have HO_9 := n2_; have HO_10 := n3_; have BK354 := n4_; have BK360 := n5_; have HB := n6_; have BK366 := n7_; have GW366 := n8_; have GE366 := n9_; have NB354_366 := n10_; have NB366_354 := n11_; have NB360_366 := n12_; have NB366_360 := n13_; clear n0_ n1_ n2_ n3_ n4_ n5_ n6_ n7_ n8_ n9_ n10_ n11_ n12_ n13_; clear hb hbox hg; have hnb49 := NB366_354.out; have hnc49 := NB354_366.out; have hnb50 := NB366_360.out; have hnc50 := NB360_366.out; have hcz51_0 : w48.cell? ⟨gb366, 0, none⟩ = some (.int .i64 0) := (blk_cell BK366.out 0).trans rfl; have hcz51_1 : w48.cell? ⟨gb366, 1, none⟩ = some (.int .i64 0) := (blk_cell BK366.out 1).trans rfl; have hcz51_2 : w48.cell? ⟨gb366, 2, none⟩ = some (.string (⟨#[]⟩ : ByteArray)) := (blk_cell BK366.out 2).trans rfl; have hfz51_0 := blk_frozen BK366.out 0; have hfz51_1 := blk_frozen BK366.out 1; have hfz51_2 := blk_frozen BK366.out 2; have hcz52_0 : w48.cell? ⟨gb354, 0, none⟩ = some (.int .i64 t350) := (blk_cell BK354.out 0).trans rfl; have hcz52_1 : w48.cell? ⟨gb354, 1, none⟩ = some (.int .i64 t351) := (blk_cell BK354.out 1).trans rfl; have hcz52_2 : w48.cell? ⟨gb354, 2, none⟩ = some (.string t352) := (blk_cell BK354.out 2).trans rfl; have hfz52_0 := blk_frozen BK354.out 0; have hfz52_1 := blk_frozen BK354.out 1; have hfz52_2 := blk_frozen BK354.out 2; have hcz53_0 : w48.cell? ⟨gb360, 0, none⟩ = some (.int .i64 t356) := (blk_cell BK360.out 0).trans rfl; have hcz53_1 : w48.cell? ⟨gb360, 1, none⟩ = some (.int .i64 t357) := (blk_cell BK360.out 1).trans rfl; have hcz53_2 : w48.cell? ⟨gb360, 2, none⟩ = some (.string t358) := (blk_cell BK360.out 2).trans rfl; have hfz53_0 := blk_frozen BK360.out 0; have hfz53_1 := blk_frozen BK360.out 1; have hfz53_2 := blk_frozen BK360.out 2; have p367 : 0 ≤ (x11_4 : Int) := of_decide_eq_true (by first | (with_reducible assumption) | assumption); have q367 : x11_4 < (y345.length : Int) := of_decide_eq_true (by first | (with_reducible assumption) | assumption); obtain ⟨ad367, e367, hx367_0⟩ := Kd.at_string (Kd.R_reads' HO_10.out).2.2 x11_4 p367 q367; obtain rfl : ad349 = ad367 := (by injection e367); have hn367_0 : ad349.block ≠ gb366 := Kd.own_blk (Kd.R_ne HO_10.out BK366.out (by decide)); have hn367_1 : ad349.block ≠ gb366 := Kd.own_blk (Kd.R_ne HO_10.out BK366.out (by decide)); have hn367_2 : ad349.block ≠ gb366 := Kd.own_blk (Kd.R_ne HO_10.out BK366.out (by decide)); replace hx367_0 := (cell_far (p := ⟨gb366, 0, none⟩) (by first | (rw [add_block]; exact hn367_0) | (show (Addr.add _ _).block ≠ _; rw [add_block]; exact hn367_0) | exact hn367_0) (.int .i64 t362)).trans hx367_0; replace hx367_0 := (cell_far (p := ⟨gb366, 1, none⟩) (by first | (rw [add_block]; exact hn367_1) | (show (Addr.add _ _).block ≠ _; rw [add_block]; exact hn367_1) | exact hn367_1) (.int .i64 t363)).trans hx367_0; replace hx367_0 := (cell_far (p := ⟨gb366, 2, none⟩) (by first | (rw [add_block]; exact hn367_2) | (show (Addr.add _ _).block ≠ _; rw [add_block]; exact hn367_2) | exact hn367_2) (.string t364)).trans hx367_0; clear hn367_0; clear hn367_1; clear hn367_2; replace p367 := eq_true p367; replace q367 := eq_true q367))
                                (try simp only [Act.put, List.setIfInBounds_toArray, List.set_cons_zero, List.set_cons_succ])
                                go_cut [18] (fun v18 wc => ∃ (kq : Nat) (x18_36 : Int), v18 = .int .i64 x18_36 ∧ Aside0 (pannierlaw10_FoldParts.j4 kq x5_2 x6_3 y342 y345 x11_4 t365 x18_36 t350 t351 t352 t356 t357 t358 t362 t363 t364 = some r) ∧ Aside0 (kq ≤ k4) ∧ Aside0 (Kd.R k23 23 wc w.heap.size (fun k_ => some k_ ≠ ((.slice Ao29 x6_3.length co29) : Value).ownBlock ∧ some k_ ≠ ((.slice Ao46 y342.length co46) : Value).ownBlock ∧ k_ ≠ gb354 ∧ k_ ≠ gb360 ∧ k_ ≠ gb366) (.slice Ao27 x5_2.length co27) x5_2) ∧ Aside0 (Kd.R k23 23 wc w.heap.size (fun k_ => some k_ ≠ ((.slice Ao27 x5_2.length co27) : Value).ownBlock ∧ some k_ ≠ ((.slice Ao46 y342.length co46) : Value).ownBlock ∧ k_ ≠ gb354 ∧ k_ ≠ gb360 ∧ k_ ≠ gb366) (.slice Ao29 x6_3.length co29) x6_3) ∧ Aside0 (Kd.R k23 23 wc w.heap.size (fun k_ => some k_ ≠ ((.slice Ao27 x5_2.length co27) : Value).ownBlock ∧ some k_ ≠ ((.slice Ao29 x6_3.length co29) : Value).ownBlock ∧ k_ ≠ gb354 ∧ k_ ≠ gb360 ∧ k_ ≠ gb366) (.slice Ao46 y342.length co46) y342) ∧ Aside0 (Kd.R Kd.string 9 wc w.heap.size (fun _ => True) (.slice (some ad349) y345.length co38) y345) ∧ Aside0 (wc.heap[gb354]? = some (.cells #[.int .i64 t350, .int .i64 t351, .string t352] 23 (0, 0))) ∧ Aside0 (wc.heap[gb360]? = some (.cells #[.int .i64 t356, .int .i64 t357, .string t358] 23 (0, 0))) ∧ Aside0 (wc.heap[gb366]? = some (.cells #[.int .i64 t362, .int .i64 t363, .string t364] 23 (0, 0))) ∧ Aside0 (Below w.heap.size w wc))
                                case first =>
                                  have H := HC37.out
                                  clear HC37
                                  by_cases c54 : (rdOf ByteArray.empty y345 x11_4).toList = ([77, 73, 78] : List UInt8)
                                  · rw [if_pos c54] at H
                                    have c54b0 : ((rdOf ByteArray.empty y345 x11_4).toList == ([77, 73, 78] : List UInt8)) = true := beq_iff_eq.mpr c54
                                    have c54b1 : ((rdOf ByteArray.empty y345 x11_4).toList != ([77, 73, 78] : List UInt8)) = false := bne_eq_false_iff_eq.mpr c54
                                    clear c54
                                    (first | rw [c54b0] | (simp only [i64_w, i32_w]; rw [c54b0]) | skip)
                                    obtain ⟨ji55, hji55⟩ : ∃ j_ : Int, (mn t351 t357) = j_ := ⟨_, rfl⟩
                                    replace H : (pannierlaw10_FoldParts.j4 k4 x5_2 x6_3 y342 y345 x11_4 t365 ji55 t350 t351 t352 t356 t357 t358 t362 t363 t364) = some r := by first | (rw [hji55] at H; exact H) | (simp only [hji55] at H ⊢; exact H)
                                    have hji55_ : (if t357 < t351 then t357 else t351) = ji55 := hji55
                                    have H' := Aside0.mk H
                                    clear H
                                    have hnb56 := NB354_360.out
                                    have hnc56 := NB360_354.out
                                    have hnb57 := NB354_366.out
                                    have hnc57 := NB366_354.out
                                    have hcz58_0 : w48.cell? ⟨gb354, 0, none⟩ = some (.int .i64 t350) := (blk_cell BK354.out 0).trans rfl
                                    have hcz58_1 : w48.cell? ⟨gb354, 1, none⟩ = some (.int .i64 t351) := (blk_cell BK354.out 1).trans rfl
                                    have hcz58_2 : w48.cell? ⟨gb354, 2, none⟩ = some (.string t352) := (blk_cell BK354.out 2).trans rfl
                                    have hfz58_0 := blk_frozen BK354.out 0
                                    have hfz58_1 := blk_frozen BK354.out 1
                                    have hfz58_2 := blk_frozen BK354.out 2
                                    have hnb59 := NB360_366.out
                                    have hnc59 := NB366_360.out
                                    have hcz60_0 : w48.cell? ⟨gb360, 0, none⟩ = some (.int .i64 t356) := (blk_cell BK360.out 0).trans rfl
                                    have hcz60_1 : w48.cell? ⟨gb360, 1, none⟩ = some (.int .i64 t357) := (blk_cell BK360.out 1).trans rfl
                                    have hcz60_2 : w48.cell? ⟨gb360, 2, none⟩ = some (.string t358) := (blk_cell BK360.out 2).trans rfl
                                    have hfz60_0 := blk_frozen BK360.out 0
                                    have hfz60_1 := blk_frozen BK360.out 1
                                    have hfz60_2 := blk_frozen BK360.out 2
                                    go_wp2
                                    go_meet
                                    case rel => exact ⟨_, (ji55), (by first | rfl | (simp; done) | (simp only [← hji55] <;> (first | rfl | simp)) | (simp [*]; done)), H', ⟨by have := HJ2.out; have := HK2.out; have := HK3.out; have := HK4.out; first | omega | exact Nat.le_refl _⟩, ⟨by (with_reducible repeat (first | apply Kd.R_alloc | apply Kd.R_drewN | apply Kd.R_drew)); exact Kd.R_mono (Kd.R_far (p := ⟨gb366, 2, none⟩) (Kd.R_far (p := ⟨gb366, 1, none⟩) (Kd.R_far (p := ⟨gb366, 0, none⟩) (Kd.R_mono HO_5.out (fun k_ hk => (⟨hk, hk.2⟩ : _ ∧ k_ ≠ gb366))) (fun _ hk => hk.2) (.int .i64 t362)) (fun _ hk => hk.2) (.int .i64 t363)) (fun _ hk => hk.2) (.string t364)) (fun _ hk => ⟨hk.1.1.1.1.1, ⟨hk.1.1.1.1.2, ⟨hk.1.1.1.2, ⟨hk.1.1.2, hk.1.2⟩⟩⟩⟩)⟩, ⟨by (with_reducible repeat (first | apply Kd.R_alloc | apply Kd.R_drewN | apply Kd.R_drew)); exact Kd.R_mono (Kd.R_far (p := ⟨gb366, 2, none⟩) (Kd.R_far (p := ⟨gb366, 1, none⟩) (Kd.R_far (p := ⟨gb366, 0, none⟩) (Kd.R_mono HO_6.out (fun k_ hk => (⟨hk, hk.2⟩ : _ ∧ k_ ≠ gb366))) (fun _ hk => hk.2) (.int .i64 t362)) (fun _ hk => hk.2) (.int .i64 t363)) (fun _ hk => hk.2) (.string t364)) (fun _ hk => ⟨hk.1.1.1.1.1, ⟨hk.1.1.1.1.2, ⟨hk.1.1.1.2, ⟨hk.1.1.2, hk.1.2⟩⟩⟩⟩)⟩, ⟨by (with_reducible repeat (first | apply Kd.R_alloc | apply Kd.R_drewN | apply Kd.R_drew)); exact Kd.R_mono (Kd.R_far (p := ⟨gb366, 2, none⟩) (Kd.R_far (p := ⟨gb366, 1, none⟩) (Kd.R_far (p := ⟨gb366, 0, none⟩) (Kd.R_mono HO_9.out (fun k_ hk => (⟨hk, hk.2⟩ : _ ∧ k_ ≠ gb366))) (fun _ hk => hk.2) (.int .i64 t362)) (fun _ hk => hk.2) (.int .i64 t363)) (fun _ hk => hk.2) (.string t364)) (fun _ hk => ⟨hk.1.1.1.1.1, ⟨hk.1.1.1.1.2, ⟨hk.1.1.1.2, ⟨hk.1.1.2, hk.1.2⟩⟩⟩⟩)⟩, ⟨by (with_reducible repeat (first | apply Kd.R_alloc | apply Kd.R_drewN | apply Kd.R_drew)); exact Kd.R_mono (Kd.R_far (p := ⟨gb366, 2, none⟩) (Kd.R_far (p := ⟨gb366, 1, none⟩) (Kd.R_far (p := ⟨gb366, 0, none⟩) (Kd.R_types HO_10.out BK366.out (by decide)) (fun _ hk => hk.2) (.int .i64 t362)) (fun _ hk => hk.2) (.int .i64 t363)) (fun _ hk => hk.2) (.string t364)) (fun _ hk => trivial)⟩, ⟨by (with_reducible repeat (first | refine blk_drewN ?_ _ | refine blk_drew ?_ | refine blk_alloc ?_ _)); refine blk_far ?_ NB354_366.out _; (with_reducible repeat (first | refine blk_drewN ?_ _ | refine blk_drew ?_ | refine blk_alloc ?_ _)); refine blk_far ?_ NB354_366.out _; (with_reducible repeat (first | refine blk_drewN ?_ _ | refine blk_drew ?_ | refine blk_alloc ?_ _)); refine blk_far ?_ NB354_366.out _; (with_reducible repeat (first | refine blk_drewN ?_ _ | refine blk_drew ?_ | refine blk_alloc ?_ _)); exact BK354.out⟩, ⟨by (with_reducible repeat (first | refine blk_drewN ?_ _ | refine blk_drew ?_ | refine blk_alloc ?_ _)); refine blk_far ?_ NB360_366.out _; (with_reducible repeat (first | refine blk_drewN ?_ _ | refine blk_drew ?_ | refine blk_alloc ?_ _)); refine blk_far ?_ NB360_366.out _; (with_reducible repeat (first | refine blk_drewN ?_ _ | refine blk_drew ?_ | refine blk_alloc ?_ _)); refine blk_far ?_ NB360_366.out _; (with_reducible repeat (first | refine blk_drewN ?_ _ | refine blk_drew ?_ | refine blk_alloc ?_ _)); exact BK360.out⟩, ⟨by (with_reducible repeat (first | refine blk_drewN ?_ _ | refine blk_drew ?_ | refine blk_alloc ?_ _)); refine blk_put (cs := #[.int .i64 t362, .int .i64 t363, .string (⟨#[]⟩ : ByteArray)]) ?_ 2 _ rfl; (with_reducible repeat (first | refine blk_drewN ?_ _ | refine blk_drew ?_ | refine blk_alloc ?_ _)); refine blk_put (cs := #[.int .i64 t362, .int .i64 0, .string (⟨#[]⟩ : ByteArray)]) ?_ 1 _ rfl; (with_reducible repeat (first | refine blk_drewN ?_ _ | refine blk_drew ?_ | refine blk_alloc ?_ _)); refine blk_put (cs := #[.int .i64 0, .int .i64 0, .string (⟨#[]⟩ : ByteArray)]) ?_ 0 _ rfl; (with_reducible repeat (first | refine blk_drewN ?_ _ | refine blk_drew ?_ | refine blk_alloc ?_ _)); exact BK366.out⟩, ⟨by repeat (first | (with_reducible first | exact HB.out | apply below_alloc | apply pw_below_drewN | apply below_drew1 | refine below_set ?_ GE354.out | refine below_set ?_ GE360.out | refine below_set ?_ GE366.out) | exact HB.out)⟩⟩
                                  · rw [if_neg c54] at H
                                    have c54b0 : ((rdOf ByteArray.empty y345 x11_4).toList == ([77, 73, 78] : List UInt8)) = false := beq_eq_false_iff_ne.mpr c54
                                    have c54b1 : ((rdOf ByteArray.empty y345 x11_4).toList != ([77, 73, 78] : List UInt8)) = true := bne_iff_ne.mpr c54
                                    (first | rw [c54b0] | (simp only [i64_w, i32_w]; rw [c54b0]) | skip)
                                    have H' := Aside0.mk H
                                    clear H
                                    go_wp2
                                    go_meet
                                    case rel => exact ⟨_, (wrap64 (t351 + t357)), (by first | rfl | (simp; done) | (simp [*]; done)), H', ⟨by have := HJ2.out; have := HK2.out; have := HK3.out; have := HK4.out; first | omega | exact Nat.le_refl _⟩, ⟨by (with_reducible repeat (first | apply Kd.R_alloc | apply Kd.R_drewN | apply Kd.R_drew)); exact Kd.R_mono (Kd.R_far (p := ⟨gb366, 2, none⟩) (Kd.R_far (p := ⟨gb366, 1, none⟩) (Kd.R_far (p := ⟨gb366, 0, none⟩) (Kd.R_mono HO_5.out (fun k_ hk => (⟨hk, hk.2⟩ : _ ∧ k_ ≠ gb366))) (fun _ hk => hk.2) (.int .i64 t362)) (fun _ hk => hk.2) (.int .i64 t363)) (fun _ hk => hk.2) (.string t364)) (fun _ hk => ⟨hk.1.1.1.1.1, ⟨hk.1.1.1.1.2, ⟨hk.1.1.1.2, ⟨hk.1.1.2, hk.1.2⟩⟩⟩⟩)⟩, ⟨by (with_reducible repeat (first | apply Kd.R_alloc | apply Kd.R_drewN | apply Kd.R_drew)); exact Kd.R_mono (Kd.R_far (p := ⟨gb366, 2, none⟩) (Kd.R_far (p := ⟨gb366, 1, none⟩) (Kd.R_far (p := ⟨gb366, 0, none⟩) (Kd.R_mono HO_6.out (fun k_ hk => (⟨hk, hk.2⟩ : _ ∧ k_ ≠ gb366))) (fun _ hk => hk.2) (.int .i64 t362)) (fun _ hk => hk.2) (.int .i64 t363)) (fun _ hk => hk.2) (.string t364)) (fun _ hk => ⟨hk.1.1.1.1.1, ⟨hk.1.1.1.1.2, ⟨hk.1.1.1.2, ⟨hk.1.1.2, hk.1.2⟩⟩⟩⟩)⟩, ⟨by (with_reducible repeat (first | apply Kd.R_alloc | apply Kd.R_drewN | apply Kd.R_drew)); exact Kd.R_mono (Kd.R_far (p := ⟨gb366, 2, none⟩) (Kd.R_far (p := ⟨gb366, 1, none⟩) (Kd.R_far (p := ⟨gb366, 0, none⟩) (Kd.R_mono HO_9.out (fun k_ hk => (⟨hk, hk.2⟩ : _ ∧ k_ ≠ gb366))) (fun _ hk => hk.2) (.int .i64 t362)) (fun _ hk => hk.2) (.int .i64 t363)) (fun _ hk => hk.2) (.string t364)) (fun _ hk => ⟨hk.1.1.1.1.1, ⟨hk.1.1.1.1.2, ⟨hk.1.1.1.2, ⟨hk.1.1.2, hk.1.2⟩⟩⟩⟩)⟩, ⟨by (with_reducible repeat (first | apply Kd.R_alloc | apply Kd.R_drewN | apply Kd.R_drew)); exact Kd.R_mono (Kd.R_far (p := ⟨gb366, 2, none⟩) (Kd.R_far (p := ⟨gb366, 1, none⟩) (Kd.R_far (p := ⟨gb366, 0, none⟩) (Kd.R_types HO_10.out BK366.out (by decide)) (fun _ hk => hk.2) (.int .i64 t362)) (fun _ hk => hk.2) (.int .i64 t363)) (fun _ hk => hk.2) (.string t364)) (fun _ hk => trivial)⟩, ⟨by (with_reducible repeat (first | refine blk_drewN ?_ _ | refine blk_drew ?_ | refine blk_alloc ?_ _)); refine blk_far ?_ NB354_366.out _; (with_reducible repeat (first | refine blk_drewN ?_ _ | refine blk_drew ?_ | refine blk_alloc ?_ _)); refine blk_far ?_ NB354_366.out _; (with_reducible repeat (first | refine blk_drewN ?_ _ | refine blk_drew ?_ | refine blk_alloc ?_ _)); refine blk_far ?_ NB354_366.out _; (with_reducible repeat (first | refine blk_drewN ?_ _ | refine blk_drew ?_ | refine blk_alloc ?_ _)); exact BK354.out⟩, ⟨by (with_reducible repeat (first | refine blk_drewN ?_ _ | refine blk_drew ?_ | refine blk_alloc ?_ _)); refine blk_far ?_ NB360_366.out _; (with_reducible repeat (first | refine blk_drewN ?_ _ | refine blk_drew ?_ | refine blk_alloc ?_ _)); refine blk_far ?_ NB360_366.out _; (with_reducible repeat (first | refine blk_drewN ?_ _ | refine blk_drew ?_ | refine blk_alloc ?_ _)); refine blk_far ?_ NB360_366.out _; (with_reducible repeat (first | refine blk_drewN ?_ _ | refine blk_drew ?_ | refine blk_alloc ?_ _)); exact BK360.out⟩, ⟨by (with_reducible repeat (first | refine blk_drewN ?_ _ | refine blk_drew ?_ | refine blk_alloc ?_ _)); refine blk_put (cs := #[.int .i64 t362, .int .i64 t363, .string (⟨#[]⟩ : ByteArray)]) ?_ 2 _ rfl; (with_reducible repeat (first | refine blk_drewN ?_ _ | refine blk_drew ?_ | refine blk_alloc ?_ _)); refine blk_put (cs := #[.int .i64 t362, .int .i64 0, .string (⟨#[]⟩ : ByteArray)]) ?_ 1 _ rfl; (with_reducible repeat (first | refine blk_drewN ?_ _ | refine blk_drew ?_ | refine blk_alloc ?_ _)); refine blk_put (cs := #[.int .i64 0, .int .i64 0, .string (⟨#[]⟩ : ByteArray)]) ?_ 0 _ rfl; (with_reducible repeat (first | refine blk_drewN ?_ _ | refine blk_drew ?_ | refine blk_alloc ?_ _)); exact BK366.out⟩, ⟨by repeat (first | (with_reducible first | exact HB.out | apply below_alloc | apply pw_below_drewN | apply below_drew1 | refine below_set ?_ GE354.out | refine below_set ?_ GE360.out | refine below_set ?_ GE366.out) | exact HB.out)⟩⟩
                                case rest =>
                                  clear HC37
                                  try clear c1
                                  try clear c2
                                  try clear p2
                                  try clear c3
                                  try clear p3
                                  try clear q3
                                  try clear hx3
                                  try clear c4
                                  try clear c4b0
                                  try clear c4b1
                                  try clear c5
                                  try clear c5b0
                                  try clear c5b1
                                  try clear c6
                                  try clear c6b0
                                  try clear c6b1
                                  try clear c6b2
                                  try clear p6
                                  try clear c7
                                  try clear c10
                                  try clear c10b0
                                  try clear c11
                                  try clear c11b0
                                  try clear c12
                                  try clear c13
                                  try clear c16
                                  try clear c16b0
                                  try clear c17
                                  try clear c17b0
                                  try clear c18
                                  try clear c19
                                  try clear c22
                                  try clear c23
                                  try clear c32
                                  try clear c32b0
                                  try clear p32
                                  try clear q32
                                  try clear hx32
                                  try clear c33
                                  try clear c33b0
                                  try clear p34
                                  try clear q34
                                  try clear hx34
                                  try clear p35
                                  try clear q35
                                  try clear hx35
                                  try clear p36
                                  try clear q36
                                  try clear hx36
                                  try clear c44
                                  try clear c49
                                  try clear c50
                                  try clear c54
                                  try clear c54b0
                                  try clear c54b1
                                  try clear c56
                                  try clear c57
                                  try clear c59
                                  try clear hcz41_0
                                  try clear hcz41_1
                                  try clear hcz41_2
                                  try clear hcz45_0
                                  try clear hcz45_1
                                  try clear hcz45_2
                                  try clear hcz51_0
                                  try clear hcz51_1
                                  try clear hcz51_2
                                  try clear hcz52_0
                                  try clear hcz52_1
                                  try clear hcz52_2
                                  try clear hcz53_0
                                  try clear hcz53_1
                                  try clear hcz53_2
                                  try clear hcz58_0
                                  try clear hcz58_1
                                  try clear hcz58_2
                                  try clear hcz60_0
                                  try clear hcz60_1
                                  try clear hcz60_2
                                  try clear hfz41_0
                                  try clear hfz41_1
                                  try clear hfz41_2
                                  try clear hfz45_0
                                  try clear hfz45_1
                                  try clear hfz45_2
                                  try clear hfz51_0
                                  try clear hfz51_1
                                  try clear hfz51_2
                                  try clear hfz52_0
                                  try clear hfz52_1
                                  try clear hfz52_2
                                  try clear hfz53_0
                                  try clear hfz53_1
                                  try clear hfz53_2
                                  try clear hfz58_0
                                  try clear hfz58_1
                                  try clear hfz58_2
                                  try clear hfz60_0
                                  try clear hfz60_1
                                  try clear hfz60_2
                                  try clear hx322_0
                                  try clear hx329_0
                                  try clear hx349_0
                                  try clear hx355_0
                                  try clear hx361_0
                                  try clear hx367_0
                                  try clear p2
                                  try clear p3
                                  try clear p322
                                  try clear p329
                                  try clear p349
                                  try clear p355
                                  try clear p361
                                  try clear p367
                                  try clear p6
                                  try clear q3
                                  try clear q322
                                  try clear q329
                                  try clear q349
                                  try clear q355
                                  try clear q361
                                  try clear q367
                                  obtain ⟨kq, x18_36, rfl, HA, HJ36, HO_5, HO_6, HO_9, HO_10, BK354, BK360, BK366, HB⟩ := hcut
                                  cases kq with
                                  | zero => exact absurd HA.out (by simp [pannierlaw10_FoldParts.j4])
                                  | succ kj36 =>
                                    have H := HA.out
                                    clear HA
                                    simp only [pannierlaw10_FoldParts.j4] at H
                                    by_cases c61 : 0 ≤ x11_4
                                    · rw [if_pos c61] at H
                                      have c61b0 : decide (0 ≤ x11_4) = true := decide_eq_true c61
                                      clear c61
                                      by_cases c62 : x11_4 < (y345.length : Int)
                                      · rw [if_pos c62] at H
                                        have c62b0 : decide (x11_4 < (y345.length : Int)) = true := decide_eq_true c62
                                        clear c62
                                        by_cases c63 : (rdOf ByteArray.empty y345 x11_4).toList = ([77, 65, 88] : List UInt8)
                                        · rw [if_pos c63] at H
                                          have c63b0 : ((rdOf ByteArray.empty y345 x11_4).toList == ([77, 65, 88] : List UInt8)) = true := beq_iff_eq.mpr c63
                                          have c63b1 : ((rdOf ByteArray.empty y345 x11_4).toList != ([77, 65, 88] : List UInt8)) = false := bne_eq_false_iff_eq.mpr c63
                                          clear c63
                                          obtain ⟨ji64, hji64⟩ : ∃ j_ : Int, (mx t351 t357) = j_ := ⟨_, rfl⟩
                                          replace H : (if t365 = true then (if t362 = 2 then (if t363 = (ji64) then (pannierlaw10_FoldParts.l2 kj36 x5_2 x6_3 y342 y345 (wrap64 (x11_4 + 1))) else (none)) else (none)) else (none)) = some r := by first | (rw [hji64] at H; exact H) | (simp only [hji64] at H ⊢; exact H)
                                          have hji64_ : (if t351 < t357 then t357 else t351) = ji64 := hji64
                                          by_cases c65 : t365 = true
                                          · subst c65
                                            have H1 : (if t362 = 2 then (if t363 = (ji64) then (pannierlaw10_FoldParts.l2 kj36 x5_2 x6_3 y342 y345 (wrap64 (x11_4 + 1))) else (none)) else (none)) = some r := by rw [if_pos rfl] at H; exact H
                                            clear H
                                            have H := H1
                                            clear H1
                                            by_cases c66 : t362 = 2
                                            · rw [if_pos c66] at H
                                              have c66b0 : (t362 == 2) = true := beq_iff_eq.mpr c66
                                              have c66b1 : (t362 != 2) = false := bne_eq_false_iff_eq.mpr c66
                                              clear c66
                                              by_cases c67 : t363 = (ji64)
                                              · rw [if_pos c67] at H
                                                have c67b0 : (t363 == (ji64)) = true := beq_iff_eq.mpr c67
                                                have c67b1 : (t363 != (ji64)) = false := bne_eq_false_iff_eq.mpr c67
                                                clear c67
                                                have H' := Aside0.mk H
                                                clear H
                                                have p368 : 0 ≤ (x11_4 : Int) := of_decide_eq_true (by first | (with_reducible assumption) | assumption)
                                                have q368 : x11_4 < (y345.length : Int) := of_decide_eq_true (by first | (with_reducible assumption) | assumption)
                                                obtain ⟨ad368, e368, hx368_0⟩ := Kd.at_string (Kd.R_reads' HO_10.out).2.2 x11_4 p368 q368
                                                obtain rfl : ad349 = ad368 := (by injection e368)
                                                replace p368 := eq_true p368
                                                replace q368 := eq_true q368
                                                have hnb68 := NB354_360.out
                                                have hnc68 := NB360_354.out
                                                have hnb69 := NB354_366.out
                                                have hnc69 := NB366_354.out
                                                have hcz70_0 : wc.cell? ⟨gb354, 0, none⟩ = some (.int .i64 t350) := (blk_cell BK354.out 0).trans rfl
                                                have hcz70_1 : wc.cell? ⟨gb354, 1, none⟩ = some (.int .i64 t351) := (blk_cell BK354.out 1).trans rfl
                                                have hcz70_2 : wc.cell? ⟨gb354, 2, none⟩ = some (.string t352) := (blk_cell BK354.out 2).trans rfl
                                                have hfz70_0 := blk_frozen BK354.out 0
                                                have hfz70_1 := blk_frozen BK354.out 1
                                                have hfz70_2 := blk_frozen BK354.out 2
                                                have hnb71 := NB360_366.out
                                                have hnc71 := NB366_360.out
                                                have hcz72_0 : wc.cell? ⟨gb360, 0, none⟩ = some (.int .i64 t356) := (blk_cell BK360.out 0).trans rfl
                                                have hcz72_1 : wc.cell? ⟨gb360, 1, none⟩ = some (.int .i64 t357) := (blk_cell BK360.out 1).trans rfl
                                                have hcz72_2 : wc.cell? ⟨gb360, 2, none⟩ = some (.string t358) := (blk_cell BK360.out 2).trans rfl
                                                have hfz72_0 := blk_frozen BK360.out 0
                                                have hfz72_1 := blk_frozen BK360.out 1
                                                have hfz72_2 := blk_frozen BK360.out 2
                                                have hcz73_0 : wc.cell? ⟨gb366, 0, none⟩ = some (.int .i64 t362) := (blk_cell BK366.out 0).trans rfl
                                                have hcz73_1 : wc.cell? ⟨gb366, 1, none⟩ = some (.int .i64 t363) := (blk_cell BK366.out 1).trans rfl
                                                have hcz73_2 : wc.cell? ⟨gb366, 2, none⟩ = some (.string t364) := (blk_cell BK366.out 2).trans rfl
                                                have hfz73_0 := blk_frozen BK366.out 0
                                                have hfz73_1 := blk_frozen BK366.out 1
                                                have hfz73_2 := blk_frozen BK366.out 2
                                                go_wp2
                                                go_roundg kj36
                                                case measure => have := HJ2.out; have := HK2.out; have := HK3.out; have := HK4.out; have := HJ36.out; omega
                                                case rel => exact ⟨(wrap64 (x11_4 + 1)), (by first | rfl | (simp; done) | (simp [*]; done)), H', ⟨by have := HJ2.out; have := HK2.out; have := HK3.out; have := HK4.out; have := HJ36.out; omega⟩, ⟨by (with_reducible repeat (first | apply Kd.R_alloc | apply Kd.R_drewN | apply Kd.R_drew)); exact Kd.R_mono HO_5.out (fun _ hk => ⟨hk.1, hk.2.1⟩)⟩, ⟨by (with_reducible repeat (first | apply Kd.R_alloc | apply Kd.R_drewN | apply Kd.R_drew)); exact Kd.R_mono HO_6.out (fun _ hk => ⟨hk.1, hk.2.1⟩)⟩, ⟨by (with_reducible repeat (first | apply Kd.R_alloc | apply Kd.R_drewN | apply Kd.R_drew)); exact Kd.R_mono HO_9.out (fun _ hk => ⟨hk.1, hk.2.1⟩)⟩, ⟨by (with_reducible repeat (first | apply Kd.R_alloc | apply Kd.R_drewN | apply Kd.R_drew)); exact HO_10.out⟩, ⟨by repeat (first | (with_reducible first | exact HB.out | apply below_alloc | apply pw_below_drewN | apply below_drew1 | refine below_set ?_ GE354.out | refine below_set ?_ GE360.out | refine below_set ?_ GE366.out) | exact HB.out)⟩⟩
                                              · rw [if_neg c67] at H
                                                exact absurd H (by simp)
                                            · rw [if_neg c66] at H
                                              exact absurd H (by simp)
                                          · replace c65 := Bool.eq_false_iff.mpr c65
                                            subst c65
                                            have H1 : (none) = some r := by rw [if_neg (show ¬ (false = true) by decide)] at H; exact H
                                            clear H
                                            have H := H1
                                            clear H1
                                            exact absurd H (by simp)
                                        · rw [if_neg c63] at H
                                          have c63b0 : ((rdOf ByteArray.empty y345 x11_4).toList == ([77, 65, 88] : List UInt8)) = false := beq_eq_false_iff_ne.mpr c63
                                          have c63b1 : ((rdOf ByteArray.empty y345 x11_4).toList != ([77, 65, 88] : List UInt8)) = true := bne_iff_ne.mpr c63
                                          by_cases c74 : t365 = true
                                          · subst c74
                                            have H1 : (if t362 = 2 then (if t363 = x18_36 then (pannierlaw10_FoldParts.l2 kj36 x5_2 x6_3 y342 y345 (wrap64 (x11_4 + 1))) else (none)) else (none)) = some r := by rw [if_pos rfl] at H; exact H
                                            clear H
                                            have H := H1
                                            clear H1
                                            by_cases c75 : t362 = 2
                                            · rw [if_pos c75] at H
                                              have c75b0 : (t362 == 2) = true := beq_iff_eq.mpr c75
                                              have c75b1 : (t362 != 2) = false := bne_eq_false_iff_eq.mpr c75
                                              clear c75
                                              by_cases c76 : t363 = x18_36
                                              · rw [if_pos c76] at H
                                                have c76b0 : (t363 == x18_36) = true := beq_iff_eq.mpr c76
                                                have c76b1 : (t363 != x18_36) = false := bne_eq_false_iff_eq.mpr c76
                                                clear c76
                                                have H' := Aside0.mk H
                                                clear H
                                                have p368 : 0 ≤ (x11_4 : Int) := of_decide_eq_true (by first | (with_reducible assumption) | assumption)
                                                have q368 : x11_4 < (y345.length : Int) := of_decide_eq_true (by first | (with_reducible assumption) | assumption)
                                                obtain ⟨ad368, e368, hx368_0⟩ := Kd.at_string (Kd.R_reads' HO_10.out).2.2 x11_4 p368 q368
                                                obtain rfl : ad349 = ad368 := (by injection e368)
                                                replace p368 := eq_true p368
                                                replace q368 := eq_true q368
                                                have hnb77 := NB366_354.out
                                                have hnc77 := NB354_366.out
                                                have hnb78 := NB366_360.out
                                                have hnc78 := NB360_366.out
                                                have hcz79_0 : wc.cell? ⟨gb366, 0, none⟩ = some (.int .i64 t362) := (blk_cell BK366.out 0).trans rfl
                                                have hcz79_1 : wc.cell? ⟨gb366, 1, none⟩ = some (.int .i64 t363) := (blk_cell BK366.out 1).trans rfl
                                                have hcz79_2 : wc.cell? ⟨gb366, 2, none⟩ = some (.string t364) := (blk_cell BK366.out 2).trans rfl
                                                have hfz79_0 := blk_frozen BK366.out 0
                                                have hfz79_1 := blk_frozen BK366.out 1
                                                have hfz79_2 := blk_frozen BK366.out 2
                                                go_wp2
                                                go_roundg kj36
                                                case measure => have := HJ2.out; have := HK2.out; have := HK3.out; have := HK4.out; have := HJ36.out; omega
                                                case rel => exact ⟨(wrap64 (x11_4 + 1)), (by first | rfl | (simp; done) | (simp [*]; done)), H', ⟨by have := HJ2.out; have := HK2.out; have := HK3.out; have := HK4.out; have := HJ36.out; omega⟩, ⟨by (with_reducible repeat (first | apply Kd.R_alloc | apply Kd.R_drewN | apply Kd.R_drew)); exact Kd.R_mono HO_5.out (fun _ hk => ⟨hk.1, hk.2.1⟩)⟩, ⟨by (with_reducible repeat (first | apply Kd.R_alloc | apply Kd.R_drewN | apply Kd.R_drew)); exact Kd.R_mono HO_6.out (fun _ hk => ⟨hk.1, hk.2.1⟩)⟩, ⟨by (with_reducible repeat (first | apply Kd.R_alloc | apply Kd.R_drewN | apply Kd.R_drew)); exact Kd.R_mono HO_9.out (fun _ hk => ⟨hk.1, hk.2.1⟩)⟩, ⟨by (with_reducible repeat (first | apply Kd.R_alloc | apply Kd.R_drewN | apply Kd.R_drew)); exact HO_10.out⟩, ⟨by repeat (first | (with_reducible first | exact HB.out | apply below_alloc | apply pw_below_drewN | apply below_drew1 | refine below_set ?_ GE354.out | refine below_set ?_ GE360.out | refine below_set ?_ GE366.out) | exact HB.out)⟩⟩
                                              · rw [if_neg c76] at H
                                                exact absurd H (by simp)
                                            · rw [if_neg c75] at H
                                              exact absurd H (by simp)
                                          · replace c74 := Bool.eq_false_iff.mpr c74
                                            subst c74
                                            have H1 : (none) = some r := by rw [if_neg (show ¬ (false = true) by decide)] at H; exact H
                                            clear H
                                            have H := H1
                                            clear H1
                                            exact absurd H (by simp)
                                      · rw [if_neg c62] at H
                                        exact absurd H (by simp)
                                    · rw [if_neg c61] at H
                                      exact absurd H (by simp)
                              · rw [if_neg c33] at H
                                exact absurd H (by simp)
                            · rw [if_neg c32] at H
                              have c32b0 : decide (x11_4 < (y345.length : Int)) = false := decide_eq_false c32
                              clear c32
                              replace H := Option.bind_eq_some_iff.mp H
                              obtain ⟨t348, A800, H⟩ := H
                              replace H : (some t348) = some r := H
                              have A80 := Aside0.mk A800
                              clear A800
                              obtain rfl := Option.some.inj H
                              obtain ⟨Ao81, co81, eo81⟩ := Kd.R_slice HO_10.out
                              subst eo81
                              go_wp2_with (first | ((with_reducible refine gate_callee (f := 12) rfl ?_); refine goesL_ (some 145) rfl rfl Tryd.func12 (by kernel_rfl) rfl #[] rfl (by (try simp only [List.map_toArray, List.map_cons, List.map_nil]); first | done | rfl | (simp only [List.length_drop, List.length_take]; rfl)) ?_; (with_reducible refine (pannierlaw10_wakes.calls  t348 _ ?side1 A80.out).mono ?_); (case side1 => exact gl_2_2 (by repeat (first | (with_reducible first | exact HB.out | apply below_alloc | apply pw_below_drewN | apply below_drew1) | exact HB.out)) hG); rintro e w82 ⟨rfl, hb⟩; refine ⟨_, rfl, ?_⟩; have n0_ := Aside0.mk (Kd.R_below (by (with_reducible repeat (first | apply Kd.R_alloc | apply Kd.R_drewN | apply Kd.R_drew)); exact HO_5.out) hb); have n1_ := Aside0.mk (Kd.R_below (by (with_reducible repeat (first | apply Kd.R_alloc | apply Kd.R_drewN | apply Kd.R_drew)); exact HO_6.out) hb); have n2_ := Aside0.mk (Kd.R_below (by (with_reducible repeat (first | apply Kd.R_alloc | apply Kd.R_drewN | apply Kd.R_drew)); exact HO_9.out) hb); have n3_ := Aside0.mk (Kd.R_below (by (with_reducible repeat (first | apply Kd.R_alloc | apply Kd.R_drewN | apply Kd.R_drew)); exact HO_10.out) hb); have n4_ := Aside0.mk (below_step (by repeat (first | (with_reducible first | exact HB.out | apply below_alloc | apply pw_below_drewN | apply below_drew1) | exact HB.out)) hb); clear HO_5; clear HO_6; clear HO_9; clear HO_10; clear HB; have HO_5 := n0_; have HO_6 := n1_; have HO_9 := n2_; have HO_10 := n3_; have HB := n4_; clear n0_ n1_ n2_ n3_ n4_; (try clear hb); (try clear hb2); (try clear hk); (try clear hi)))
                              go_ret
                              exact ⟨by first | rfl | (simp [errW_none, errW_some] <;> rfl) | (simp [*, errW_none, errW_some] <;> rfl), by repeat (first | (with_reducible first | exact HB.out | apply below_alloc | apply pw_below_drewN | apply below_drew1) | exact HB.out)⟩
                      · rw [if_neg c23] at H
                        exact absurd H (by simp)
                    · rw [if_neg c22] at H
                      exact absurd H (by simp)
end Go.Proofs.YtmdmpafdpgdpoaaDoor.P

namespace Go.Proofs.YtmdmpafdpgdpoaaDoor.P
open Go.RowKit Go.Proofs.YtmdmpafdpgdpoaaDoorW.PrintWords Go.Proofs.YtmdmpafdpgdpoaaDoorW.PrintLast Go.Proofs.YtmdmpafdpgdpoaaDoorW.PrintMore
attribute [local go_sem] max2_int min2_int max_two min_two max_three min_three max_four min_four   -- for this text's walks alone
set_option linter.unusedVariables false
set_option linter.unusedSimpArgs false
end Go.Proofs.YtmdmpafdpgdpoaaDoor.P

namespace Go.Proofs.YtmdmpafdpgdpoaaDoor.P
open Go.RowKit Go.Proofs.YtmdmpafdpgdpoaaDoorW.PrintWords Go.Proofs.YtmdmpafdpgdpoaaDoorW.PrintLast Go.Proofs.YtmdmpafdpgdpoaaDoorW.PrintMore
attribute [local go_sem] max2_int min2_int max_two min_two max_three min_three max_four min_four   -- for this text's walks alone
set_option linter.unusedVariables false
set_option linter.unusedSimpArgs false
end Go.Proofs.YtmdmpafdpgdpoaaDoor.P

namespace Go.Proofs.YtmdmpafdpgdpoaaDoor.P
open Go.RowKit Go.Proofs.YtmdmpafdpgdpoaaDoorW.PrintWords Go.Proofs.YtmdmpafdpgdpoaaDoorW.PrintLast Go.Proofs.YtmdmpafdpgdpoaaDoorW.PrintMore
attribute [local go_sem] max2_int min2_int max_two min_two max_three min_three max_four min_four   -- for this text's walks alone
set_option linter.unusedVariables false
set_option linter.unusedSimpArgs false
end Go.Proofs.YtmdmpafdpgdpoaaDoor.P

namespace Go.Proofs.YtmdmpafdpgdpoaaDoor.P
open Go.RowKit Go.Proofs.YtmdmpafdpgdpoaaDoorW.PrintWords Go.Proofs.YtmdmpafdpgdpoaaDoorW.PrintLast Go.Proofs.YtmdmpafdpgdpoaaDoorW.PrintMore
attribute [local go_sem] max2_int min2_int max_two min_two max_three min_three max_four min_four   -- for this text's walks alone
set_option linter.unusedVariables false
set_option linter.unusedSimpArgs false
end Go.Proofs.YtmdmpafdpgdpoaaDoor.P

namespace Go.Proofs.YtmdmpafdpgdpoaaDoor.P
open Go.RowKit Go.Proofs.YtmdmpafdpgdpoaaDoorW.PrintWords Go.Proofs.YtmdmpafdpgdpoaaDoorW.PrintLast Go.Proofs.YtmdmpafdpgdpoaaDoorW.PrintMore
attribute [local go_sem] max2_int min2_int max_two min_two max_three min_three max_four min_four   -- for this text's walks alone
set_option linter.unusedVariables false
set_option linter.unusedSimpArgs false
end Go.Proofs.YtmdmpafdpgdpoaaDoor.P

namespace Go.Proofs.YtmdmpafdpgdpoaaDoor.P
open Go.RowKit Go.Proofs.YtmdmpafdpgdpoaaDoorW.PrintWords Go.Proofs.YtmdmpafdpgdpoaaDoorW.PrintLast Go.Proofs.YtmdmpafdpgdpoaaDoorW.PrintMore
open M (fit I64)
set_option linter.unusedVariables false
set_option linter.unusedSimpArgs false
theorem wakes10 : pannierlaw10_wakes.f = some true := by decide +kernel
theorem rdV {l : List S23} {i : Nat} (h : i < l.length) : rd_T23 l (i : Int) = l[i] := by
  unfold rd_T23; simp [List.getD_eq_getElem?_getD, h]
theorem wrap_next {i n : Nat} (h : i < n) (hn : n ≤ 4611686018427387904) : wrap64 ((i : Int) + 1) = ((i + 1 : Nat) : Int) := by
  rw [M.wrap64_id (by unfold I64; omega)]; omega
end Go.Proofs.YtmdmpafdpgdpoaaDoor.P

namespace Go.Proofs.YtmdmpafdpgdpoaaDoor.P
open Go.RowKit Go.Proofs.YtmdmpafdpgdpoaaDoorW.PrintWords Go.Proofs.YtmdmpafdpgdpoaaDoorW.PrintLast Go.Proofs.YtmdmpafdpgdpoaaDoorW.PrintMore
open M (fit I64 u64w dig itoaF)
set_option linter.unusedVariables false
set_option linter.unusedSimpArgs false
def noB : ByteArray := ⟨#[]⟩
theorem noB_list : noB.toList = [] := by rw [ByteArray.toList_eq]; rfl
def goodB (k n : Int) (s : ByteArray) : Bool := (value_Good.f k n s).getD false
theorem vgood_eq (k n : Int) (s : ByteArray) : value_Good.f k n s = some (goodB k n s) := by
  unfold goodB value_Good.f
  repeat' split
  all_goals rfl
theorem vfail_eq {n : Int} (h0 : 1 ≤ n) (h1 : n ≤ 8) : value_Fail.f n = some (4, n, noB) := by
  unfold value_Fail.f; rw [if_neg (by omega), if_neg (by omega)]; rfl
theorem vof_eq (s : ByteArray) : value_Of.f s = some (if s.size ≤ 200 then (3, 0, s) else (4, 7, noB)) := by
  unfold value_Of.f
  by_cases h : s.size ≤ 200
  · rw [if_neg (by omega), if_pos h]
  · rw [if_pos (by omega), if_neg h, vfail_eq (by omega) (by omega)]; rfl
theorem bytes_eq {s t : ByteArray} (h : s.toList = t.toList) : s = t := by
  rw [ByteArray.toList_eq, ByteArray.toList_eq] at h
  exact ByteArray.ext (Array.toList_inj.1 h)
theorem good_cases {k n : Int} {s : ByteArray} (h : goodB k n s = true) : (k = 0 ∧ n = 0 ∧ s = noB) ∨ (k = 1 ∧ (n = 0 ∨ n = 1) ∧ s = noB) ∨ (k = 2 ∧ s = noB) ∨ (k = 3 ∧ n = 0 ∧ s.size ≤ 200) ∨ (k = 4 ∧ 1 ≤ n ∧ n ≤ 8 ∧ s = noB) := by
  have hb : (s.toList == ([] : List UInt8)) = true → s = noB := fun h => bytes_eq (by rw [noB_list]; simpa using h)
  have hg := vgood_eq k n s
  rw [h] at hg
  unfold value_Good.f at hg
  split at hg
  · rename_i e; subst e
    split at hg
    · rename_i e; exact .inl ⟨rfl, e, hb (by simpa using hg)⟩
    · simp at hg
  · split at hg
    · rename_i e; subst e
      split at hg
      · rename_i e; exact .inr (.inl ⟨rfl, .inl e, hb (by simpa using hg)⟩)
      · split at hg
        · rename_i e; exact .inr (.inl ⟨rfl, .inr e, hb (by simpa using hg)⟩)
        · simp at hg
    · split at hg
      · rename_i e; exact .inr (.inr (.inl ⟨e, hb (by simpa using hg)⟩))
      · split at hg
        · rename_i e
          split at hg
          · rename_i e'; simp at hg; exact .inr (.inr (.inr (.inl ⟨e, e', by omega⟩)))
          · simp at hg
        · split at hg
          · rename_i e
            split at hg
            · split at hg
              · rename_i e1 e2; exact .inr (.inr (.inr (.inr ⟨e, e1, e2, hb (by simpa using hg)⟩)))
              · simp at hg
            · simp at hg
          · simp at hg
theorem good_int (n : Int) : goodB 2 n noB = true := by
  have := vgood_eq 2 n noB
  unfold value_Good.f at this
  simp [noB_list] at this; exact this
def faultV (k n : Int) (s : ByteArray) : Int × Int × ByteArray := if goodB k n s = true then (if k = 4 then (k, n, s) else (0, 0, noB)) else (4, 3, noB)
theorem fault_eq (k : Nat) (hk : 1 ≤ k) (t n : Int) (s : ByteArray) : value_fault.f k t n s = some (faultV t n s) := by
  obtain ⟨k, rfl⟩ : ∃ m, k = m + 1 := ⟨k - 1, by omega⟩
  unfold value_fault.f faultV
  by_cases h4 : t = 4
  · rw [if_pos h4, vgood_eq, Option.bind_some, value_fault.j0]
    by_cases hg : goodB t n s = true
    · rw [if_pos hg, if_pos hg, if_pos h4]
    · rw [if_neg hg, if_neg hg, vgood_eq, Option.bind_some, if_neg hg, vfail_eq (by omega) (by omega)]; rfl
  · rw [if_neg h4, value_fault.j0, if_neg (by simp), vgood_eq, Option.bind_some]
    by_cases hg : goodB t n s = true
    · rw [if_pos hg, if_pos hg, if_neg h4]; rfl
    · rw [if_neg hg, if_neg hg, vfail_eq (by omega) (by omega)]; rfl
end Go.Proofs.YtmdmpafdpgdpoaaDoor.P

namespace Go.Proofs.YtmdmpafdpgdpoaaDoor.P
open Go.RowKit Go.Proofs.YtmdmpafdpgdpoaaDoorW.PrintWords Go.Proofs.YtmdmpafdpgdpoaaDoorW.PrintLast Go.Proofs.YtmdmpafdpgdpoaaDoorW.PrintMore
open M (fit I64 u64w dig itoaF)
set_option linter.unusedVariables false
set_option linter.unusedSimpArgs false
def showS (k n : Int) (s : ByteArray) : ByteArray := if goodB k n s = true then (if k = 2 then bs (itoaF n) else if k = 1 then (if n = 1 then ⟨#[84, 82, 85, 69]⟩ else ⟨#[70, 65, 76, 83, 69]⟩) else if k = 4 then nm n.toNat else s) else ⟨#[63]⟩
theorem show_eq (k n : Int) (s : ByteArray) (hn : I64 n) : value_Show.f k n s = some (showS k n s) := by
  unfold value_Show.f showS
  rw [vgood_eq, Option.bind_some]
  by_cases hg : goodB k n s = true
  · rw [if_pos hg, if_pos hg]
    by_cases h2 : k = 2
    · rw [if_pos h2, if_pos h2, dec_one n hn]
    · rw [if_neg h2, if_neg h2]
      by_cases h1 : k = 1
      · rw [if_pos h1, if_pos h1]; split <;> rfl
      · rw [if_neg h1, if_neg h1]
        by_cases h4 : k = 4
        · rw [if_pos h4, if_pos h4]
          have : 0 ≤ n ∧ n < 9 := by rcases good_cases hg with h | h | h | h | h <;> omega
          rw [if_pos this]
        · rw [if_neg h4, if_neg h4]
  · rw [if_neg hg, if_neg hg]
def strV (k n : Int) (s : ByteArray) : ByteArray × Int × Int × ByteArray := if goodB k n s = true ∧ k ≠ 4 then (showS k n s, 0, 0, noB) else (noB, faultV k n s)
theorem fault_none {k n : Int} {s : ByteArray} (h : goodB k n s = true) (h4 : k ≠ 4) : faultV k n s = (0, 0, noB) := by unfold faultV; rw [if_pos h, if_neg h4]
theorem fault_some {k n : Int} {s : ByteArray} (h : ¬ (goodB k n s = true ∧ k ≠ 4)) : (faultV k n s).1 = 4 := by
  unfold faultV
  by_cases hg : goodB k n s = true
  · have h4 : k = 4 := by
      by_cases h4 : k = 4
      · exact h4
      · exact absurd ⟨hg, h4⟩ h
    rw [if_pos hg, if_pos h4, h4]
  · rw [if_neg hg]
theorem str_eq (r : Nat) (hr : 1 ≤ r) (k n : Int) (s : ByteArray) (hn : I64 n) : value_Str.f r k n s = some (strV k n s) := by
  unfold value_Str.f strV
  rw [fault_eq r hr, Option.bind_some]
  by_cases h : goodB k n s = true ∧ k ≠ 4
  · rw [if_pos h, fault_none h.1 h.2, if_pos rfl, show_eq k n s hn, Option.bind_some]; rfl
  · have := fault_some h
    rw [if_neg h, if_neg (by omega)]; rfl
def numV (k n : Int) (s : ByteArray) : Int × Int × Int × ByteArray :=
  if goodB k n s = true ∧ k ≠ 4 then (if k = 3 then (if (M.numParse s.data.toList).2 = true then ((M.numParse s.data.toList).1, 0, 0, noB) else (0, 4, 3, noB)) else (n, 0, 0, noB)) else (0, faultV k n s)
theorem num_eq (r : Nat) (hr : 1 ≤ r) (k n : Int) (s : ByteArray) : value_Num.f r k n s = some (numV k n s) := by
  unfold value_Num.f numV
  rw [fault_eq r hr, Option.bind_some]
  by_cases h : goodB k n s = true ∧ k ≠ 4
  · rw [if_pos h, fault_none h.1 h.2, if_pos rfl]
    by_cases h3 : k = 3
    · have hs : s.size ≤ 200 := by rcases good_cases h.1 with h | h | h | h | h <;> omega
      have hp : num_Parse.f s = some (M.numParse s.data.toList) := by unfold num_Parse.f; rw [if_pos (by omega)]
      rw [if_pos h3, if_pos h3, hp, Option.bind_some]
      by_cases hq : (M.numParse s.data.toList).2 = true
      · rw [if_pos hq, if_pos hq]; rfl
      · rw [if_neg hq, if_neg hq, vfail_eq (by omega) (by omega)]; rfl
    · rw [if_neg h3, if_neg h3]; rfl
  · have := fault_some h
    rw [if_neg h, if_neg (by omega)]
def yesS : List UInt8 := [84, 82, 85, 69]
def noS : List UInt8 := [70, 65, 76, 83, 69]
def flagV (k n : Int) (s : ByteArray) : Bool × Int × Int × ByteArray :=
  if goodB k n s = true ∧ k ≠ 4 then (if k = 3 then (if s.toList = yesS then (true, 0, 0, noB) else if s.toList = noS then (n != 0, 0, 0, noB) else (false, 4, 3, noB)) else (n != 0, 0, 0, noB)) else (false, faultV k n s)
theorem flag_eq (r : Nat) (hr : 1 ≤ r) (k n : Int) (s : ByteArray) : value_Flag.f r k n s = some (flagV k n s) := by
  obtain ⟨r, rfl⟩ : ∃ m, r = m + 1 := ⟨r - 1, by omega⟩
  unfold value_Flag.f flagV yesS noS
  rw [fault_eq _ hr, Option.bind_some]
  by_cases h : goodB k n s = true ∧ k ≠ 4
  · rw [if_pos h, fault_none h.1 h.2, if_pos rfl]
    by_cases h3 : k = 3
    · rw [if_pos h3, if_pos h3]
      by_cases hy : s.toList = ([84, 82, 85, 69] : List UInt8)
      · rw [if_pos hy, show (s.toList == [84, 82, 85, 69]) = true by simpa using hy, value_Flag.j0, if_pos rfl]; rfl
      · rw [if_neg hy, show (s.toList == [84, 82, 85, 69]) = false by simpa using hy, value_Flag.j0, if_neg (by simp), if_pos h3]
        by_cases hz : s.toList = ([70, 65, 76, 83, 69] : List UInt8)
        · rw [if_pos hz, if_pos hz]; rfl
        · rw [if_neg hz, if_neg hz, vfail_eq (by omega) (by omega)]; rfl
    · rw [if_neg h3, if_neg h3, value_Flag.j0, if_neg (by simp), if_neg h3]; rfl
  · have := fault_some h
    rw [if_neg h, if_neg (by omega)]
end Go.Proofs.YtmdmpafdpgdpoaaDoor.P



namespace Go.Proofs.YtmdmpafdpgdpoaaDoor.P
open Go.RowKit Go.Proofs.YtmdmpafdpgdpoaaDoorW.PrintWords Go.Proofs.YtmdmpafdpgdpoaaDoorW.PrintLast Go.Proofs.YtmdmpafdpgdpoaaDoorW.PrintMore
open M (fit I64 u64w)
set_option linter.unusedVariables false
set_option linter.unusedSimpArgs false
theorem add_eq (a b : Int) (ha : I64 a) (hb : I64 b) : num_Add.f a b = some (fit (a + b)) := by
  unfold num_Add.f
  have hc := M.wrap64_in (a + b)
  have h := M.and_neg _ _ (M.bits_in .xor a (wrap64 (a + b))) (M.bits_in .xor b (wrap64 (a + b)))
  rw [M.xor_neg _ _ ha hc, M.xor_neg _ _ hb hc] at h
  have hw : wrap64 (a + b) = (a + b + 9223372036854775808) % 18446744073709551616 - 9223372036854775808 := by unfold wrap64; rfl
  unfold I64 at ha hb
  by_cases h0 : a + b < -9223372036854775808 ∨ 9223372036854775807 < a + b
  · rw [if_pos]
    · rw [M.fit_out (by omega)]
    · apply of_decide_eq_true; rw [h]
      simp only [Bool.and_eq_true, bne_iff_ne, ne_eq, decide_eq_decide]
      omega
  · rw [if_neg]
    · rw [M.fit_in (by omega), M.wrap64_id (by unfold I64; omega)]
    · apply of_decide_eq_false; rw [h]
      simp only [Bool.and_eq_false_iff, bne_eq_false_iff_eq, decide_eq_decide]
      omega
theorem size_eq (a : Int) (ha : I64 a) : num_size.f a = some (a.natAbs : Int) := by
  unfold num_size.f; unfold I64 at ha
  split
  · rw [u64w, u64w]; congr 1; omega
  · rw [u64w]; congr 1; omega
theorem signed_eq (k : Nat) (u : Int) (b : Bool) (h0 : 0 ≤ u) (h1 : u < 18446744073709551616) : num_signed.f (k + 1) u b = some (fit (if b = true then -u else u)) := by
  unfold num_signed.f
  cases b
  · simp only [num_signed.j0, Bool.false_eq_true, if_false]
    by_cases h : u ≤ 9223372036854775807
    · rw [if_pos h, M.fit_in (by omega), M.wrap64_id (by unfold I64; omega)]
    · rw [if_neg h, M.fit_out (by omega)]
  · simp only [num_signed.j0, if_true, decide_eq_true_eq]
    by_cases h : u ≤ 9223372036854775808
    · rw [if_pos h, M.fit_in (by omega), u64w]
      congr 2; unfold wrap64; omega
    · rw [if_neg h, M.fit_out (by omega)]
theorem apart_eq (k : Nat) (a b : Int) : num_apart.f (k + 1) a b = some (decide (a < 0) != decide (b < 0)) := by
  unfold num_apart.f
  by_cases h0 : a < 0 <;> by_cases h1 : b < 0 <;> simp [num_apart.j0, h0, h1]
theorem mul_eq (k : Nat) (a b : Int) (ha : I64 a) (hb : I64 b) : num_Mul.f (k + 1) a b = some (fit (a * b)) := by
  unfold num_Mul.f
  have hm := M.mul_sizes a b
  have hx : a.natAbs * b.natAbs ≤ 9223372036854775808 * 9223372036854775808 := Nat.mul_le_mul (by unfold I64 at ha; omega) (by unfold I64 at hb; omega)
  rw [size_eq a ha, Option.bind_some, size_eq b hb, Option.bind_some]
  unfold bits_Mul64.f
  rw [if_pos (by unfold I64 at ha hb; omega), Option.bind_some]
  rw [show (a.natAbs : Int) * (b.natAbs : Int) = ((a.natAbs * b.natAbs : Nat) : Int) by rw [Int.natCast_mul]]
  generalize a.natAbs * b.natAbs = m at *
  rw [apart_eq, Option.bind_some, signed_eq _ _ _ (by omega) (by omega), Option.bind_some, hm]
  generalize (decide (a < 0) != decide (b < 0)) = c
  by_cases h : (m : Int) / 18446744073709551616 > 0
  · rw [if_pos h, M.fit_out (by split <;> omega)]
  · rw [if_neg h, show (m : Int) % 18446744073709551616 = m by omega]
end Go.Proofs.YtmdmpafdpgdpoaaDoor.P

namespace Go.Proofs.YtmdmpafdpgdpoaaDoor.P
open Go.RowKit Go.Proofs.YtmdmpafdpgdpoaaDoorW.PrintWords Go.Proofs.YtmdmpafdpgdpoaaDoorW.PrintLast Go.Proofs.YtmdmpafdpgdpoaaDoorW.PrintMore
open M (fit I64 u64w)
set_option linter.unusedVariables false
set_option linter.unusedSimpArgs false
theorem tdiv_sizes (a b : Int) : a.tdiv b = if (decide (a < 0) != decide (b < 0)) = true then -((a.natAbs / b.natAbs : Nat) : Int) else ((a.natAbs / b.natAbs : Nat) : Int) := by
  by_cases h0 : a < 0 <;> by_cases h1 : b < 0
  · rw [if_neg (by simp [h0, h1])]
    obtain ⟨x, rfl⟩ : ∃ x : Nat, a = -(x : Int) := ⟨a.natAbs, by omega⟩
    obtain ⟨y, rfl⟩ : ∃ y : Nat, b = -(y : Int) := ⟨b.natAbs, by omega⟩
    rw [Int.neg_tdiv, Int.tdiv_neg, Int.neg_neg, ← Int.ofNat_tdiv]; simp
  · rw [if_pos (by simp [h0, h1])]
    obtain ⟨x, rfl⟩ : ∃ x : Nat, a = -(x : Int) := ⟨a.natAbs, by omega⟩
    obtain ⟨y, rfl⟩ : ∃ y : Nat, b = (y : Int) := ⟨b.natAbs, by omega⟩
    rw [Int.neg_tdiv, ← Int.ofNat_tdiv]; simp
  · rw [if_pos (by simp [h0, h1])]
    obtain ⟨x, rfl⟩ : ∃ x : Nat, a = (x : Int) := ⟨a.natAbs, by omega⟩
    obtain ⟨y, rfl⟩ : ∃ y : Nat, b = -(y : Int) := ⟨b.natAbs, by omega⟩
    rw [Int.tdiv_neg, ← Int.ofNat_tdiv]; simp
  · rw [if_neg (by simp [h0, h1])]
    obtain ⟨x, rfl⟩ : ∃ x : Nat, a = (x : Int) := ⟨a.natAbs, by omega⟩
    obtain ⟨y, rfl⟩ : ∃ y : Nat, b = (y : Int) := ⟨b.natAbs, by omega⟩
    rw [← Int.ofNat_tdiv]; simp
def divS (a b : Int) : Int × Bool := if b = 0 then (0, false) else fit (a.tdiv b)
theorem div_le2 (x y : Nat) (h : 2 ≤ y) : x / y ≤ x / 2 := Nat.div_le_div_left h (by omega)
theorem tdiv_in (a b : Int) (ha : I64 a) (h0 : b ≠ 0) (h : ¬ (a = -9223372036854775808 ∧ b = -1)) : I64 (a.tdiv b) := by
  rw [tdiv_sizes]
  unfold I64 at *
  have hle := Nat.div_le_self a.natAbs b.natAbs
  by_cases h1 : 2 ≤ b.natAbs
  · have h2 := div_le2 a.natAbs b.natAbs h1
    generalize a.natAbs / b.natAbs = q at *
    split <;> omega
  · have hb : b.natAbs = 1 := by omega
    rw [hb, Nat.div_one]
    rcases (by omega : b = 1 ∨ b = -1) with rfl | rfl <;> by_cases h3 : a < 0 <;> simp [h3] <;> omega
theorem div_eq (a b : Int) (ha : I64 a) : num_Div.f a b = some (divS a b) := by
  unfold num_Div.f divS
  by_cases h0 : b = 0
  · rw [if_pos h0, if_pos h0]
  · rw [if_neg h0, if_neg h0]
    by_cases h1 : a = -9223372036854775808
    · rw [if_pos h1]
      by_cases h2 : b = -1
      · subst h1; subst h2; rfl
      · rw [if_neg h2, M.fit_in (tdiv_in a b ha h0 (by omega)), M.wrap64_id (tdiv_in a b ha h0 (by omega))]
    · rw [if_neg h1, M.fit_in (tdiv_in a b ha h0 (by omega)), M.wrap64_id (tdiv_in a b ha h0 (by omega))]
end Go.Proofs.YtmdmpafdpgdpoaaDoor.P

namespace Go.Proofs.YtmdmpafdpgdpoaaDoor.P
open Go.RowKit Go.Proofs.YtmdmpafdpgdpoaaDoorW.PrintWords Go.Proofs.YtmdmpafdpgdpoaaDoorW.PrintLast Go.Proofs.YtmdmpafdpgdpoaaDoorW.PrintMore
open M (fit I64)
set_option linter.unusedVariables false
set_option linter.unusedSimpArgs false
def nV (x : S23) : Int × Int × Int × ByteArray := numV x.f0 x.f1 x.f2
def fV (x : S23) : Bool × Int × Int × ByteArray := flagV x.f0 x.f1 x.f2
def sV (x : S23) : ByteArray × Int × Int × ByteArray := strV x.f0 x.f1 x.f2
theorem fit_in1 (n : Int) : I64 (fit n).1 := by
  unfold M.fit; split
  · rename_i h; exact h
  · show I64 0; unfold I64; omega
theorem numV_in {k n : Int} {s : ByteArray} (hn : I64 n) : I64 (numV k n s).1 := by
  unfold numV
  have h0 : I64 0 := by unfold I64; omega
  split
  · split
    · split
      · rename_i h
        have := M.numParse_ok (l := s.data.toList) (v := (M.numParse s.data.toList).1) (by rw [← h])
        exact ⟨this.2.1, this.2.2⟩
      · exact h0
    · exact hn
  · exact h0
def numsV (st : Int → Int → Int → Int × Bool) : List S23 → Int → Int → Int × Int × Int × ByteArray
  | [], n, _ => (n, 0, 0, noB)
  | v :: r, n, i => if (nV v).2.1 = 0 then (if (st n (nV v).1 i).2 = true then numsV st r (st n (nV v).1 i).1 (i + 1) else (0, 4, 2, noB)) else (0, (nV v).2)
theorem numbers_eq {sto : Int → Int → Int → Option (Int × Bool)} {st : Int → Int → Int → Int × Bool} (hst : ∀ n b i, I64 n → I64 b → sto n b i = some (st n b i) ∧ I64 (st n b i).1) :
    ∀ (l : List S23) (n i : Int), (∀ x ∈ l, I64 x.f1) → I64 n → numbersF sto l n i = some (numsV st l n i) ∧ I64 (numsV st l n i).1
  | [], n, i, _, hn => ⟨rfl, hn⟩
  | v :: r, n, i, hl, hn => by
    have h0 : I64 0 := by unfold I64; omega
    have hv : I64 (nV v).1 := numV_in (hl v (by simp))
    obtain ⟨e1, e2⟩ := hst n (nV v).1 i hn hv
    unfold numbersF numsV
    rw [num_eq 1 (by omega)]
    simp only [Option.bind_some]
    by_cases hk : (nV v).2.1 = 0
    · rw [if_pos hk]
      have hk' : (numV v.f0 v.f1 v.f2).2.1 = 0 := hk
      rw [if_pos hk']
      have e1' : sto n (numV v.f0 v.f1 v.f2).1 i = some (st n (nV v).1 i) := e1
      rw [e1', Option.bind_some]
      by_cases hb : (st n (nV v).1 i).2 = true
      · rw [if_pos hb, if_pos hb]
        exact numbers_eq hst r _ _ (fun x hx => hl x (by simp [hx])) e2
      · rw [if_neg hb, if_neg hb, vfail_eq (by omega) (by omega)]
        exact ⟨rfl, h0⟩
    · rw [if_neg hk]
      have hk' : ¬ (numV v.f0 v.f1 v.f2).2.1 = 0 := hk
      rw [if_neg hk']
      exact ⟨rfl, h0⟩
def addSt : Int → Int → Int → Int × Bool := fun a b _ => fit (a + b)
def mulSt : Int → Int → Int → Int × Bool := fun a b _ => fit (a * b)
def bestS (bt : Int → Int → Bool) : Int → Int → Int → Int × Bool := fun a b i => if i = 0 then (b, true) else if bt b a = true then (b, true) else (a, true)
theorem add_st (n b i : Int) (hn : I64 n) (hb : I64 b) : (fun a b (_ : Int) => num_Add.f a b) n b i = some (addSt n b i) ∧ I64 (addSt n b i).1 := ⟨add_eq n b hn hb, fit_in1 _⟩
theorem mul_st (n b i : Int) (hn : I64 n) (hb : I64 b) : (fun a b (_ : Int) => num_Mul.f 100 a b) n b i = some (mulSt n b i) ∧ I64 (mulSt n b i).1 := ⟨mul_eq 99 n b hn hb, fit_in1 _⟩
theorem best_st (bt : Int → Int → Bool) (n b i : Int) (hn : I64 n) (hb : I64 b) : bestSt bt n b i = some (bestS bt n b i) ∧ I64 (bestS bt n b i).1 := by
  unfold bestSt bestS
  split
  · exact ⟨rfl, hb⟩
  · split
    · exact ⟨rfl, hb⟩
    · exact ⟨rfl, hn⟩
def toldV (t : Int × Int × Int × ByteArray) : Int × Int × ByteArray := if t.2.1 = 0 then (2, t.1, noB) else t.2
theorem told_eq (t : Int × Int × Int × ByteArray) : fold_told.f t.1 t.2.1 t.2.2.1 t.2.2.2 = some (toldV t) := by
  unfold fold_told.f toldV
  split
  · rfl
  · rfl
def meanV (m : List S23) : Int × Int × ByteArray :=
  if (numsV addSt m 0 0).2.1 = 0 then (if m.length = 0 then (4, 1, noB) else (2, (divS (numsV addSt m 0 0).1 (m.length : Int)).1, noB)) else (numsV addSt m 0 0).2
theorem mean_eq (m : List S23) (hm : ∀ x ∈ m, I64 x.f1) : fold_mean.f m = some (meanV m) := by
  obtain ⟨h1, h2⟩ := numbers_eq add_st m 0 0 hm (by unfold I64; omega)
  have h1' : fold_sum.f m = some (numsV addSt m 0 0) := h1
  unfold fold_mean.f meanV
  rw [h1', Option.bind_some]
  split
  · by_cases h0 : m.length = 0
    · rw [if_pos (by omega), if_pos h0, vfail_eq (by omega) (by omega)]; rfl
    · rw [if_neg (by omega), if_neg h0, div_eq _ _ h2]; rfl
  · rfl
def flagsV (all : Bool) : List S23 → Bool → Int × Int × ByteArray
  | [], is => if is = true then (1, 1, noB) else (1, 0, noB)
  | v :: r, is => if (fV v).2.1 = 0 then flagsV all r (if all = true then is && (fV v).1 else is || (fV v).1) else (fV v).2
theorem flags_loop (all : Bool) (l : List S23) (hl : l.length ≤ 4398046511104) : ∀ (d i k : Nat) (is : Bool), i + d = l.length → d + 1 < k → fold_flags.l0 k all is l (l.length : Int) (i : Int) = some (flagsV all (l.drop i) is) := by
  intro d
  induction d with
  | zero =>
    intro i k is hi hk
    obtain ⟨k, rfl⟩ : ∃ m, k = m + 1 := ⟨k - 1, by omega⟩
    rw [fold_flags.l0, if_neg (by omega), List.drop_of_length_le (by omega)]
    unfold fold_truth.f flagsV
    cases is <;> rfl
  | succ d ih =>
    intro i k is hi hk
    obtain ⟨k, rfl⟩ : ∃ m, k = m + 1 := ⟨k - 1, by omega⟩
    have hlt : i < l.length := by omega
    have hd : l.drop i = l[i] :: l.drop (i + 1) := List.drop_eq_getElem_cons hlt
    rw [fold_flags.l0, if_pos (by omega), if_pos (by omega), if_pos (by omega), rdV hlt, wrap_next hlt (by omega), hd, flag_eq k (by omega), Option.bind_some]
    unfold flagsV
    by_cases hk2 : (fV l[i]).2.1 = 0
    · have hk' : (flagV l[i].f0 l[i].f1 l[i].f2).2.1 = 0 := hk2
      rw [if_pos hk', if_pos hk2]
      have hn := fun is => ih (i + 1) k is (by omega) (by omega)
      cases all <;> cases is <;> simp only [Bool.false_eq_true, if_false, if_true, Bool.true_and, Bool.false_and, Bool.true_or, Bool.false_or] <;> exact hn _
    · have hk' : ¬ (flagV l[i].f0 l[i].f1 l[i].f2).2.1 = 0 := hk2
      rw [if_neg hk', if_neg hk2]; rfl
theorem flags_eq (all : Bool) (l : List S23) (hl : l.length ≤ 4398046511104) (k : Nat) (hk : l.length + 1 < k) : fold_flags.f k l all = some (flagsV all l all) := by
  have := flags_loop all l hl l.length 0 k all (by omega) hk
  exact this
def joinS (a b : ByteArray) : Int × Int × ByteArray := if a.size ≤ 200 ∧ b.size ≤ 200 ∧ a.size + b.size ≤ 200 then (3, 0, a ++ b) else (4, 7, noB)
theorem long_eq (k : Nat) (hk : 4 ≤ k) (a b : ByteArray) : text_long.f k [a, b] = some (decide (a.size > 200) || decide (b.size > 200)) := by
  obtain ⟨k, rfl⟩ : ∃ m, k = m + 3 := ⟨k - 3, by omega⟩
  have w1 : wrap64 ((0 : Int) + 1) = 1 := by unfold wrap64; decide
  have w2 : wrap64 ((1 : Int) + 1) = 2 := by unfold wrap64; decide
  unfold text_long.f
  have r0 : rdOf ByteArray.empty [a, b] 0 = a := rfl
  have r1 : rdOf ByteArray.empty [a, b] 1 = b := rfl
  have hlen : (([a, b] : List ByteArray).length : Int) = 2 := rfl
  rw [hlen]
  simp only [text_long.l0, hlen]
  rw [if_pos (by omega), if_pos (by omega), if_pos (by omega), r0, w1]
  by_cases ha : a.size > 200
  · rw [if_pos (by omega), decide_eq_true ha, Bool.true_or]
  · rw [if_neg (by omega), if_pos (by omega), if_pos (by omega), if_pos (by omega), r1, w2]
    by_cases hb : b.size > 200
    · rw [if_pos (by omega), decide_eq_true hb, Bool.or_true]
    · rw [if_neg (by omega), if_neg (by omega), decide_eq_false ha, decide_eq_false hb]; rfl
theorem join_eq (k : Nat) (hk : 4 ≤ k) (a b : ByteArray) : text_Join.f k a b = some (joinS a b) := by
  unfold text_Join.f joinS
  rw [long_eq k hk, Option.bind_some]
  by_cases ha : a.size > 200
  · rw [if_pos (by rw [decide_eq_true ha]; rfl), vfail_eq (by omega) (by omega), if_neg (by omega)]; rfl
  · by_cases hb : b.size > 200
    · rw [if_pos (by rw [decide_eq_true hb, Bool.or_true]), vfail_eq (by omega) (by omega), if_neg (by omega)]; rfl
    · rw [if_neg (by rw [decide_eq_false ha, decide_eq_false hb]; decide), if_pos (by omega), vof_eq, Option.bind_some, ByteArray.size_append]
      by_cases hs : a.size + b.size ≤ 200
      · rw [if_pos hs, if_pos ⟨by omega, by omega, hs⟩]
      · rw [if_neg hs, if_neg (fun h => hs h.2.2)]
def joinedV : List S23 → Int × Int × ByteArray → Int × Int × ByteArray
  | [], st => st
  | v :: r, st => if (sV v).2.1 = 0 then (if (joinS st.2.2 (sV v).1).1 = 4 then joinS st.2.2 (sV v).1 else joinedV r (joinS st.2.2 (sV v).1)) else (sV v).2
theorem joined_loop (l : List S23) (hl : l.length ≤ 4398046511104) (hw : ∀ x ∈ l, I64 x.f1) : ∀ (d i k : Nat) (a b : Int) (s : ByteArray), i + d = l.length → d + 4 < k → fold_joined.l0 k l (l.length : Int) (i : Int) a b s = some (joinedV (l.drop i) (a, b, s)) := by
  intro d
  induction d with
  | zero =>
    intro i k a b s hi hk
    obtain ⟨k, rfl⟩ : ∃ m, k = m + 1 := ⟨k - 1, by omega⟩
    rw [fold_joined.l0, if_neg (by omega), List.drop_of_length_le (by omega)]; rfl
  | succ d ih =>
    intro i k a b s hi hk
    obtain ⟨k, rfl⟩ : ∃ m, k = m + 1 := ⟨k - 1, by omega⟩
    have hlt : i < l.length := by omega
    have hd : l.drop i = l[i] :: l.drop (i + 1) := List.drop_eq_getElem_cons hlt
    rw [fold_joined.l0, if_pos (by omega), if_pos (by omega), if_pos (by omega), rdV hlt, wrap_next hlt (by omega), hd, str_eq k (by omega) _ _ _ (hw _ (List.getElem_mem hlt)), Option.bind_some]
    unfold joinedV
    by_cases hk2 : (sV l[i]).2.1 = 0
    · have hk' : (strV l[i].f0 l[i].f1 l[i].f2).2.1 = 0 := hk2
      rw [if_pos hk', if_pos hk2, join_eq k (by omega), Option.bind_some]
      have hj : joinS s (strV l[i].f0 l[i].f1 l[i].f2).1 = joinS s (sV l[i]).1 := rfl
      rw [hj]
      by_cases h4 : (joinS s (sV l[i]).1).1 = 4
      · rw [if_pos h4, if_pos h4]
      · rw [if_neg h4, if_neg h4]
        exact ih (i + 1) k _ _ _ (by omega) (by omega)
    · have hk' : ¬ (strV l[i].f0 l[i].f1 l[i].f2).2.1 = 0 := hk2
      rw [if_neg hk', if_neg hk2]; rfl
theorem joined_eq (l : List S23) (hl : l.length ≤ 4398046511104) (hw : ∀ x ∈ l, I64 x.f1) (k : Nat) (hk : l.length + 4 < k) : fold_joined.f k l = some (joinedV l (3, 0, noB)) := by
  have := joined_loop l hl hw l.length 0 k 3 0 noB (by omega) hk
  unfold fold_joined.f
  rw [vof_eq, Option.bind_some, if_pos (by decide)]
  exact this
def bestV (bt : Int → Int → Bool) (m : List S23) : Int × Int × ByteArray := if m.length = 0 then (4, 8, noB) else toldV (numsV (bestS bt) m 0 0)
theorem best_eq (bt : Int → Int → Bool) (m : List S23) (hm : ∀ x ∈ m, I64 x.f1) : bestF bt m = some (bestV bt m) := by
  obtain ⟨h1, h2⟩ := numbers_eq (best_st bt) m 0 0 hm (by unfold I64; omega)
  unfold bestF bestV
  split
  · exact vfail_eq (by omega) (by omega)
  · rw [h1, Option.bind_some, told_eq]
def lessB : Int → Int → Bool := fun a b => decide (a < b)
def moreB : Int → Int → Bool := fun a b => decide (b < a)
def withT (r : Int × Int × ByteArray) : Int × Int × ByteArray × Bool := (r.1, r.2.1, r.2.2, true)
def ofV (name : List UInt8) (m : List S23) : Int × Int × ByteArray × Bool :=
  if name = [83, 85, 77] then withT (toldV (numsV addSt m 0 0)) else
  if name = [80, 82, 79, 68, 85, 67, 84] then withT (toldV (numsV mulSt m 1 0)) else
  if name = [77, 73, 78] then withT (bestV lessB m) else
  if name = [77, 65, 88] then withT (bestV moreB m) else
  if name = [65, 86, 71] then withT (meanV m) else
  if name = [65, 78, 68] then withT (flagsV true m true) else
  if name = [79, 82] then withT (flagsV false m false) else
  if name = [74, 79, 73, 78] then withT (joinedV m (3, 0, noB)) else
  if name = [67, 79, 85, 78, 84] then (2, ((intsV m).length : Int), noB, true) else
  if name = [67, 79, 85, 78, 84, 65] then (2, (m.length : Int), noB, true) else
  (0, 0, noB, false)
theorem ite_some {α : Type} {c : Prop} [Decidable c] {x y : Option α} {a b : α} (h1 : x = some a) (h2 : y = some b) : (if c then x else y) = some (if c then a else b) := by
  split
  · exact h1
  · exact h2
theorem ofF_eq (name : List UInt8) (m : List S23) (hl : m.length ≤ 4398046511104) (hm : ∀ x ∈ m, I64 x.f1) : ofF name m = some (ofV name m) := by
  obtain ⟨a1, a2⟩ := numbers_eq add_st m 0 0 hm (by unfold I64; omega)
  obtain ⟨m1, m2⟩ := numbers_eq mul_st m 1 0 hm (by unfold I64; omega)
  have a1' : fold_sum.f m = some (numsV addSt m 0 0) := a1
  unfold ofF ofV
  rw [a1', Option.bind_some, told_eq, m1, Option.bind_some, told_eq, show bestF (fun a b => decide (a < b)) m = some (bestV lessB m) from best_eq lessB m hm, show bestF (fun a b => decide (b < a)) m = some (bestV moreB m) from best_eq moreB m hm, mean_eq m hm, flags_eq true m hl _ (by omega), flags_eq false m hl _ (by omega), joined_eq m hl hm _ (by omega)]
  exact ite_some rfl (ite_some rfl (ite_some rfl (ite_some rfl (ite_some rfl (ite_some rfl (ite_some rfl (ite_some rfl (ite_some rfl (ite_some rfl rfl)))))))))
theorem full_all {l : List S23} {Q : S23 → Prop} (h : ∀ x ∈ l, Q x) : ∀ x ∈ fullV l, Q x := fun x hx => h x (List.mem_filter.1 hx).1
theorem of_eq (a0 : ByteArray) (l : List S23) (hl : l.length < 4398046511104) (hw : ∀ x ∈ l, I64 x.f1) : fold_Of.f a0 l = some (ofV a0.toList (fullV l)) := by
  unfold fold_Of.f
  rw [if_pos hl]
  exact ofF_eq _ _ (by have := full_le l; omega) (full_all hw)
end Go.Proofs.YtmdmpafdpgdpoaaDoor.P

namespace Go.Proofs.YtmdmpafdpgdpoaaDoor.P
open Go.RowKit Go.Proofs.YtmdmpafdpgdpoaaDoorW.PrintWords Go.Proofs.YtmdmpafdpgdpoaaDoorW.PrintLast Go.Proofs.YtmdmpafdpgdpoaaDoorW.PrintMore
open M (fit I64)
set_option linter.unusedVariables false
set_option linter.unusedSimpArgs false
def numI (i : Int) : S23 := ⟨2, i, noB⟩
def I32 (i : Int) : Prop := -2147483648 ≤ i ∧ i ≤ 2147483647
theorem i32wf {n : Int} (h : (Lit.int .i32 n).wf = true) : I32 n := by
  simp [Lit.wf, IntKind.min, IntKind.max, IntKind.signed, IntKind.bits] at h; unfold I32; omega
theorem nV_num (i : Int) : nV (numI i) = (i, 0, 0, noB) := by
  unfold nV numI numV
  simp only []
  rw [if_pos ⟨good_int i, by omega⟩, if_neg (by omega)]
theorem full_nums (l : List Int) : fullV (l.map numI) = l.map numI := by
  unfold fullV
  rw [List.filter_eq_self]
  intro x hx
  obtain ⟨i, _, rfl⟩ := List.mem_map.1 hx
  rfl
theorem ints_nums (l : List Int) : intsV (l.map numI) = l.map numI := by
  unfold intsV
  rw [List.filter_eq_self]
  intro x hx
  obtain ⟨i, _, rfl⟩ := List.mem_map.1 hx
  rfl
theorem sum_bound : ∀ (l : List Int), (∀ x ∈ l, I32 x) → -(2147483648 * (l.length : Int)) ≤ l.sum ∧ l.sum ≤ 2147483648 * (l.length : Int)
  | [], _ => by simp
  | x :: r, h => by
    have h1 := sum_bound r (fun y hy => h y (by simp [hy]))
    have h2 := h x (by simp)
    unfold I32 at h2
    simp only [List.sum_cons, List.length_cons]
    omega
theorem nums_sum : ∀ (l : List Int) (n i : Int), (∀ x ∈ l, I32 x) → -4611686018427387904 ≤ n - 2147483648 * (l.length : Int) → n + 2147483648 * (l.length : Int) ≤ 4611686018427387904 → numsV addSt (l.map numI) n i = (n + l.sum, 0, 0, noB)
  | [], n, i, _, _, _ => by simp [numsV]
  | x :: r, n, i, h, h0, h1 => by
    have h2 := h x (by simp)
    unfold I32 at h2
    simp only [List.length_cons] at h0 h1
    have hf : addSt n x i = (n + x, true) := by unfold addSt; rw [M.fit_in (by omega)]
    rw [List.map_cons, numsV, nV_num, if_pos rfl]
    simp only []
    rw [hf, if_pos rfl, nums_sum r (n + x) (i + 1) (fun y hy => h y (by simp [hy])) (by omega) (by omega)]
    simp [Int.add_assoc]
def foldB (bt : Int → Int → Bool) : Int → List Int → Int
  | n, [] => n
  | n, x :: r => foldB bt (if bt x n = true then x else n) r
theorem nums_best (bt : Int → Int → Bool) : ∀ (l : List Int) (n i : Int), 1 ≤ i → numsV (bestS bt) (l.map numI) n i = (foldB bt n l, 0, 0, noB)
  | [], n, i, _ => rfl
  | x :: r, n, i, hi => by
    have hf : bestS bt n x i = (if bt x n = true then x else n, true) := by
      unfold bestS; rw [if_neg (by omega)]; split <;> rfl
    rw [List.map_cons, numsV, nV_num, if_pos rfl]
    simp only []
    rw [hf, if_pos rfl, nums_best bt r _ (i + 1) (by omega)]
    rfl
theorem best_nums (bt : Int → Int → Bool) (x : Int) (r : List Int) : bestV bt ((x :: r).map numI) = (2, foldB bt x r, noB) := by
  have hf : bestS bt 0 x 0 = (x, true) := by unfold bestS; rw [if_pos rfl]
  unfold bestV
  rw [if_neg (by simp), List.map_cons, numsV, nV_num, if_pos rfl]
  simp only []
  rw [hf, if_pos rfl, nums_best bt r x _ (by omega)]
  rfl
theorem fold_append (bt : Int → Int → Bool) : ∀ (l m : List Int) (n : Int), foldB bt n (l ++ m) = foldB bt (foldB bt n l) m
  | [], _, _ => rfl
  | x :: r, m, n => fold_append bt r m _
theorem min_less (x : Int) : ∀ (l : List Int) (y : Int), foldB lessB (mn x y) l = mn x (foldB lessB y l)
  | [], _ => rfl
  | z :: r, y => by
    have h : (if lessB z (mn x y) = true then z else mn x y) = mn x (if lessB z y = true then z else y) := by
      unfold lessB mn; simp only [decide_eq_true_eq]; repeat' split
      all_goals omega
    show foldB lessB (if lessB z (mn x y) = true then z else mn x y) r = mn x (foldB lessB (if lessB z y = true then z else y) r)
    rw [h]; exact min_less x r _
theorem max_more (x : Int) : ∀ (l : List Int) (y : Int), foldB moreB (mx x y) l = mx x (foldB moreB y l)
  | [], _ => rfl
  | z :: r, y => by
    have h : (if moreB z (mx x y) = true then z else mx x y) = mx x (if moreB z y = true then z else y) := by
      unfold moreB mx; simp only [decide_eq_true_eq]; repeat' split
      all_goals omega
    show foldB moreB (if moreB z (mx x y) = true then z else mx x y) r = mx x (foldB moreB (if moreB z y = true then z else y) r)
    rw [h]; exact max_more x r _
theorem least_both (x y : Int) (r s : List Int) : foldB lessB x (r ++ y :: s) = mn (foldB lessB x r) (foldB lessB y s) := by
  rw [fold_append]
  have h : ∀ A : Int, foldB lessB A (y :: s) = mn A (foldB lessB y s) := by
    intro A
    rw [← min_less]
    show foldB lessB (if lessB y A = true then y else A) s = _
    congr 1
    unfold lessB mn; simp only [decide_eq_true_eq]; repeat' split
    all_goals omega
  exact h _
theorem most_both (x y : Int) (r s : List Int) : foldB moreB x (r ++ y :: s) = mx (foldB moreB x r) (foldB moreB y s) := by
  rw [fold_append]
  have h : ∀ A : Int, foldB moreB A (y :: s) = mx A (foldB moreB y s) := by
    intro A
    rw [← max_more]
    show foldB moreB (if moreB y A = true then y else A) s = _
    congr 1
    unfold moreB mx; simp only [decide_eq_true_eq]; repeat' split
    all_goals omega
  exact h _
theorem rdI {l : List Int} {i : Nat} (h : i < l.length) : rd l (i : Int) = l[i] := by
  unfold rd; simp [List.getD_eq_getElem?_getD, h]
abbrev names4 : List ByteArray := [⟨#[83, 85, 77]⟩, ⟨#[77, 73, 78]⟩, ⟨#[77, 65, 88]⟩, ⟨#[67, 79, 85, 78, 84]⟩]
theorem nums_in {l : List Int} (h : ∀ x ∈ l, I32 x) : ∀ x ∈ l.map numI, I64 x.f1 := by
  intro x hx
  obtain ⟨i, hi, rfl⟩ := List.mem_map.1 hx
  have := h i hi
  show I64 i
  unfold I32 at this; unfold I64; omega
theorem of_nums {l : List Int} (h : ∀ x ∈ l, I32 x) (hl : l.length ≤ 1000) (nm : ByteArray) : fold_Of.f nm (l.map numI) = some (ofV nm.toList (l.map numI)) := by
  rw [of_eq nm _ (by rw [List.length_map]; omega) (nums_in h), full_nums]
theorem of_sum {l : List Int} (h : ∀ x ∈ l, I32 x) (hl : l.length ≤ 1000) : ofV [83, 85, 77] (l.map numI) = (2, l.sum, noB, true) := by
  unfold ofV; rw [if_pos rfl, nums_sum l 0 0 h (by omega) (by omega), Int.zero_add]; rfl
theorem of_min (x : Int) (r : List Int) : ofV [77, 73, 78] ((x :: r).map numI) = (2, foldB lessB x r, noB, true) := by
  unfold ofV; rw [if_neg (by decide), if_neg (by decide), if_pos rfl, best_nums]; rfl
theorem of_max (x : Int) (r : List Int) : ofV [77, 65, 88] ((x :: r).map numI) = (2, foldB moreB x r, noB, true) := by
  unfold ofV; rw [if_neg (by decide), if_neg (by decide), if_neg (by decide), if_pos rfl, best_nums]; rfl
theorem of_count (l : List Int) : ofV [67, 79, 85, 78, 84] (l.map numI) = (2, (l.length : Int), noB, true) := by
  unfold ofV; rw [if_neg (by decide), if_neg (by decide), if_neg (by decide), if_neg (by decide), if_neg (by decide), if_neg (by decide), if_neg (by decide), if_neg (by decide), if_pos rfl, ints_nums, List.length_map]
theorem parts_names (a b : List Int) (ha : ∀ x ∈ a, I32 x) (hb : ∀ x ∈ b, I32 x) (la : a.length ≤ 200) (lb : b.length ≤ 200) (na : a ≠ []) (nb : b ≠ []) (k : Nat) :
    pannierlaw10_FoldParts.l2 (k + 20) (a.map numI) (b.map numI) (a.map numI ++ b.map numI) names4 0 = some true := by
  obtain ⟨x, r, rfl⟩ := List.exists_cons_of_ne_nil na
  obtain ⟨y, s, rfl⟩ := List.exists_cons_of_ne_nil nb
  have hab : ∀ z ∈ (x :: r) ++ (y :: s), I32 z := fun z hz => by
    rcases List.mem_append.1 hz with h | h
    · exact ha z h
    · exact hb z h
  have lab : ((x :: r) ++ (y :: s)).length ≤ 1000 := by rw [List.length_append]; omega
  rw [← List.map_append]
  have sa := sum_bound _ ha
  have sb := sum_bound _ hb
  have w1 : wrap64 ((0 : Int) + 1) = 1 := by unfold wrap64; decide
  have w2 : wrap64 ((1 : Int) + 1) = 2 := by unfold wrap64; decide
  have w3 : wrap64 ((2 : Int) + 1) = 3 := by unfold wrap64; decide
  have w4 : wrap64 ((3 : Int) + 1) = 4 := by unfold wrap64; decide
  have hlen : (names4.length : Int) = 4 := rfl
  have r0 : rdOf ByteArray.empty names4 0 = ⟨#[83, 85, 77]⟩ := rfl
  have r1 : rdOf ByteArray.empty names4 1 = ⟨#[77, 73, 78]⟩ := rfl
  have r2 : rdOf ByteArray.empty names4 2 = ⟨#[77, 65, 88]⟩ := rfl
  have r3 : rdOf ByteArray.empty names4 3 = ⟨#[67, 79, 85, 78, 84]⟩ := rfl
  have t0 : (⟨#[83, 85, 77]⟩ : ByteArray).toList = [83, 85, 77] := by rw [ByteArray.toList_eq]
  have t1 : (⟨#[77, 73, 78]⟩ : ByteArray).toList = [77, 73, 78] := by rw [ByteArray.toList_eq]
  have t2 : (⟨#[77, 65, 88]⟩ : ByteArray).toList = [77, 65, 88] := by rw [ByteArray.toList_eq]
  have t3 : (⟨#[67, 79, 85, 78, 84]⟩ : ByteArray).toList = [67, 79, 85, 78, 84] := by rw [ByteArray.toList_eq]
  have o := fun nm => of_nums ha (by omega) nm
  have p := fun nm => of_nums hb (by omega) nm
  have q := fun nm => of_nums hab lab nm
  have hn : ∀ i : Int, i = 0 ∨ i = 1 ∨ i = 2 ∨ i = 3 → 0 ≤ i ∧ i < 4 := fun i h => by omega
  rw [pannierlaw10_FoldParts.l2, hlen, if_pos (by omega), if_pos (by omega), r0, o, Option.bind_some, p, Option.bind_some, q, Option.bind_some, t0, if_neg (by decide), of_sum ha (by omega), of_sum hb (by omega), of_sum hab lab]
  rw [pannierlaw10_FoldParts.j4, hlen, if_pos (by omega), if_pos (by omega), r0, t0, if_neg (by decide), if_pos rfl, if_pos rfl]
  simp only []
  rw [List.sum_append, M.wrap64_id (by unfold I64; simp only [List.length_cons] at sa sb la lb; omega), if_pos rfl, w1]
  rw [pannierlaw10_FoldParts.l2, hlen, if_pos (by omega), if_pos (by omega), r1, o, Option.bind_some, p, Option.bind_some, q, Option.bind_some, t1, if_pos rfl, of_min, of_min, List.cons_append, of_min]
  rw [pannierlaw10_FoldParts.j4, hlen, if_pos (by omega), if_pos (by omega), r1, t1, if_neg (by decide), if_pos rfl, if_pos rfl]
  simp only []
  rw [least_both, if_pos rfl, w2, ← List.cons_append]
  rw [pannierlaw10_FoldParts.l2, hlen, if_pos (by omega), if_pos (by omega), r2, o, Option.bind_some, p, Option.bind_some, q, Option.bind_some, t2, if_neg (by decide), of_max, of_max, List.cons_append, of_max]
  rw [pannierlaw10_FoldParts.j4, hlen, if_pos (by omega), if_pos (by omega), r2, t2, if_pos rfl, if_pos rfl, if_pos rfl]
  simp only []
  rw [most_both, if_pos rfl, w3, ← List.cons_append]
  rw [pannierlaw10_FoldParts.l2, hlen, if_pos (by omega), if_pos (by omega), r3, o, Option.bind_some, p, Option.bind_some, q, Option.bind_some, t3, if_neg (by decide), of_count, of_count, of_count]
  rw [pannierlaw10_FoldParts.j4, hlen, if_pos (by omega), if_pos (by omega), r3, t3, if_neg (by decide), if_pos rfl, if_pos rfl]
  simp only []
  rw [M.wrap64_id (by unfold I64; simp only [List.length_cons] at *; omega), if_pos (by simp only [List.length_append]; omega), w4]
  rw [pannierlaw10_FoldParts.l2, hlen, if_neg (by omega), wakes10]; rfl
theorem parts_l1 (a b : List Int) (ha : ∀ x ∈ a, I32 x) (hb : ∀ x ∈ b, I32 x) (la : a.length ≤ 200) (lb : b.length ≤ 200) (na : a ≠ []) (nb : b ≠ []) : ∀ (d i k : Nat), i + d = b.length → d + 30 < k →
    pannierlaw10_FoldParts.l1 k b (a.map numI) ((b.take i).map numI) (i : Int) = some true := by
  intro d
  induction d with
  | zero =>
    intro i k hi hk
    obtain ⟨k, rfl⟩ : ∃ m, k = m + 20 + 1 := ⟨k - 21, by omega⟩
    rw [pannierlaw10_FoldParts.l1, if_neg (by omega), List.take_of_length_le (by omega)]
    simp only [Option.bind_some, List.nil_append, List.length_nil, Nat.zero_add, List.length_map]
    rw [if_pos (by omega), if_pos (by omega)]
    exact parts_names a b ha hb la lb na nb k
  | succ d ih =>
    intro i k hi hk
    obtain ⟨k, rfl⟩ : ∃ m, k = m + 1 := ⟨k - 1, by omega⟩
    have hlt : i < b.length := by omega
    have hx := hb _ (List.getElem_mem hlt)
    unfold I32 at hx
    rw [pannierlaw10_FoldParts.l1, if_pos (by omega), if_pos (by omega), rdI hlt, M.wrap64_id (by unfold I64; omega)]
    have hnum : pannierlaw10_num.f b[i] = some (2, b[i], noB) := rfl
    rw [hnum, Option.bind_some, if_pos (by rw [List.length_map, List.length_take]; omega), wrap_next hlt (by omega)]
    have ht : (b.take i).map numI ++ [(⟨2, b[i], noB⟩ : S23)] = (b.take (i + 1)).map numI := by
      rw [List.take_succ_eq_append_getElem hlt, List.map_append]; rfl
    rw [ht]
    exact ih (i + 1) k (by omega) (by omega)
theorem parts_l0 (a b : List Int) (ha : ∀ x ∈ a, I32 x) (hb : ∀ x ∈ b, I32 x) (la : a.length ≤ 200) (lb : b.length ≤ 200) (na : a ≠ []) (nb : b ≠ []) : ∀ (d i k : Nat), i + d = a.length → d + 300 < k →
    pannierlaw10_FoldParts.l0 k a b ((a.take i).map numI) (i : Int) = some true := by
  intro d
  induction d with
  | zero =>
    intro i k hi hk
    obtain ⟨k, rfl⟩ : ∃ m, k = m + 1 := ⟨k - 1, by omega⟩
    rw [pannierlaw10_FoldParts.l0, if_neg (by omega), List.take_of_length_le (by omega)]
    have := parts_l1 a b ha hb la lb na nb b.length 0 k (by omega) (by omega)
    simpa using this
  | succ d ih =>
    intro i k hi hk
    obtain ⟨k, rfl⟩ : ∃ m, k = m + 1 := ⟨k - 1, by omega⟩
    have hlt : i < a.length := by omega
    have hx := ha _ (List.getElem_mem hlt)
    unfold I32 at hx
    rw [pannierlaw10_FoldParts.l0, if_pos (by omega), if_pos (by omega), rdI hlt, M.wrap64_id (by unfold I64; omega)]
    have hnum : pannierlaw10_num.f a[i] = some (2, a[i], noB) := rfl
    rw [hnum, Option.bind_some, if_pos (by rw [List.length_map, List.length_take]; omega), wrap_next hlt (by omega)]
    have ht : (a.take i).map numI ++ [(⟨2, a[i], noB⟩ : S23)] = (a.take (i + 1)).map numI := by
      rw [List.take_succ_eq_append_getElem hlt, List.map_append]; rfl
    rw [ht]
    exact ih (i + 1) k (by omega) (by omega)
theorem FoldParts_pure (a b : List Int) (h0 : a.length * 4 ≤ 140737488351232) (ha : ∀ x ∈ a, (Lit.int .i32 x).wf = true) (h1 : b.length * 4 ≤ 140737488351232) (hb : ∀ x ∈ b, (Lit.int .i32 x).wf = true) : ∃ k, pannierlaw10_FoldParts.f k a b = some true := by
  have hj : ∀ k, pannierlaw10_FoldParts.j0 (k + 1) a b true = some true := fun k => by
    rw [pannierlaw10_FoldParts.j0, if_pos rfl, wakes10]; rfl
  refine ⟨1000 + 1, ?_⟩
  unfold pannierlaw10_FoldParts.f
  by_cases c0 : (a.length : Int) > 200
  · rw [if_pos c0, hj]
  · rw [if_neg c0]
    by_cases c1 : (b.length : Int) > 200
    · rw [if_pos c1, hj]
    · rw [if_neg c1]
      by_cases c2 : (a.length : Int) = 0
      · rw [if_pos c2, hj]
      · rw [if_neg c2]
        by_cases c3 : (b.length : Int) = 0
        · rw [show ((b.length : Int) == 0) = true from beq_iff_eq.2 c3, hj]
        · rw [show ((b.length : Int) == 0) = false from beq_eq_false_iff_ne.2 c3, pannierlaw10_FoldParts.j0, if_neg (by decide)]
          have := parts_l0 a b (fun x hx => i32wf (ha x hx)) (fun x hx => i32wf (hb x hx)) (by omega) (by omega) (fun e => by subst e; simp at c2) (fun e => by subst e; simp at c3) a.length 0 1000 (by omega) (by omega)
          simpa using this
end Go.Proofs.YtmdmpafdpgdpoaaDoor.P
