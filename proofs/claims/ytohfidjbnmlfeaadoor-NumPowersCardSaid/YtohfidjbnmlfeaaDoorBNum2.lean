/- Contracts of the functions that the law reaches, each with the plain function that it comes to, and plain facts about these. -/
import Derived.Laws.Bits64
import Derived.Laws.Bits64b
import Derived.Laws.Strings
import Derived.Test.YtohfidjbnmlfeaaDoorBNum1
namespace Go.Proofs.YtohfidjbnmlfeaaDoor.P
open Go.RowKit Go.Proofs.YtohfidjbnmlfeaaDoorW.PrintWords Go.Proofs.YtohfidjbnmlfeaaDoorW.PrintLast Go.Proofs.YtohfidjbnmlfeaaDoorW.PrintMore
attribute [local go_sem] max2_int min2_int max_two min_two max_three min_three max_four min_four   -- for this text's walks alone
set_option linter.unusedVariables false
set_option linter.unusedSimpArgs false

attribute [local go_sem high] fld57_1
/-! ### pannierref01_Mod: function 44 -/
def pannierref01_Mod.j0 : Nat → Int → Int → Bool → Option (Int × Bool)
  | 0, _, _, _ => none
  | k + 1, x0, x1, x14 => if x14 = true then (some (0, false)) else ((pannierref01_whole.f x0).bind fun t306 => ((pannierref01_whole.f x1).bind fun t307 => (if t307 = 0 then (none) else (if x0 < 0 then ((pannierref01_signed.f k (Int.tmod t306 t307) (decide ((Int.tmod t306 t307) > 0))).bind fun bt308 => (some (bt308.1, bt308.2))) else ((pannierref01_signed.f k (Int.tmod t306 t307) false).bind fun bt310 => (some (bt310.1, bt310.2)))))))
def pannierref01_Mod.f (k : Nat) (a0 : Int) (a1 : Int) : Option (Int × Bool) := if a1 = 0 then (pannierref01_Mod.j0 k a0 a1 true) else ((pannierref01_Div.f k a0 a1).bind fun bt304 => (pannierref01_Mod.j0 k a0 a1 (!bt304.2)))
theorem pannierref01_Mod.mono_l : ∀ k, (∀ y0 y1 y2, LeO (pannierref01_Mod.j0 k y0 y1 y2) (pannierref01_Mod.j0 (k + 1) y0 y1 y2))
  | 0 => fun _ _ _ r h => by simp [pannierref01_Mod.j0] at h
  | k + 1 => by
    have ih0 := pannierref01_Mod.mono_l k
    · intro y0 y1 y2
      unfold pannierref01_Mod.j0
      repeat' first
      | (with_reducible exact ih0 _ _ _)
      | (with_reducible exact pannierref01_Div.mono _ _ _)
      | (with_reducible exact pannierref01_signed.mono _ _ _)
      | (with_reducible exact LeO.refl _)
      | (with_reducible exact LeO.none _)
      | (with_reducible refine LeO.ite ?_ ?_)
      | (with_reducible refine LeO.bind ?_ (fun _ => ?_))
      | exact ih0 _ _ _
      | exact pannierref01_Div.mono _ _ _
      | exact pannierref01_signed.mono _ _ _
      | exact LeO.none _
      | refine LeO.ite ?_ ?_
      | refine LeO.bind ?_ (fun _ => ?_)
theorem pannierref01_Mod.mono : ∀ a0 a1 k, LeO (pannierref01_Mod.f k a0 a1) (pannierref01_Mod.f (k + 1) a0 a1) := by
  intro a0 a1 k
  have ih0 := pannierref01_Mod.mono_l k
  unfold pannierref01_Mod.f
  repeat' first
      | (with_reducible exact ih0 _ _ _)
      | (with_reducible exact pannierref01_Div.mono _ _ _)
      | (with_reducible exact pannierref01_signed.mono _ _ _)
      | (with_reducible exact LeO.refl _)
      | (with_reducible exact LeO.none _)
      | (with_reducible refine LeO.ite ?_ ?_)
      | (with_reducible refine LeO.bind ?_ (fun _ => ?_))
      | exact ih0 _ _ _
      | exact pannierref01_Div.mono _ _ _
      | exact pannierref01_signed.mono _ _ _
      | exact LeO.none _
      | refine LeO.ite ?_ ?_
      | refine LeO.bind ?_ (fun _ => ?_)
set_option maxHeartbeats 8000000 in
set_option maxRecDepth 100000 in
theorem pannierref01_Mod.calls (k : Nat) (a0 : Int) (a1 : Int) (r1 : Int) (r2 : Bool) (w : World) (h : pannierref01_Mod.f k a0 a1 = some (r1, r2)) :
    Calls Tryd.prog 44 #[.int .i64 a0, .int .i64 a1] w fun e w' => e = .returned (.agg #[.int .i64 r1, .bool r2]) ∧ Below w.heap.size w w' := by
  have hu57 := Tryd.underlying57
  have HB := Aside0.mk (Below.refl w.heap.size w)
  have H : (if a1 = 0 then (pannierref01_Mod.j0 k a0 a1 true) else ((pannierref01_Div.f k a0 a1).bind fun bt304 => (pannierref01_Mod.j0 k a0 a1 (!bt304.2)))) = some (r1, r2) := h
  clear h
  have HC3 := Aside0.mk H
  clear H
  go_enter Tryd.func44, Tryd.ntmps44
  go_upto_region 1 with (first | ((with_reducible refine gate_dst (N := 4) rfl ?_); refine box_event ?hg (N := 4) ?hd (cs := #[.int .i64 0, .bool false]) (t := 57) ?hr ?_; (case hd => rfl); (case hg => rfl); (case hr => first | (go_simp; done) | (go_simp; rfl)); intro gb303 hg w4 hbox hb; have n0_ := Aside0.mk (below_step (by repeat (first | (with_reducible first | exact HB.out | apply below_alloc | apply pw_below_drewN | apply below_drew1) | exact HB.out)) hb); have n1_ := Aside0.mk (hbox); have n2_ := Aside0.mk ((by rw [hg]; exact (below_size (by repeat (first | (with_reducible first | exact HB.out | apply below_alloc | apply pw_below_drewN | apply below_drew1) | exact HB.out))) : w.heap.size ≤ gb303)); have n3_ := Aside0.mk ((by rw [hg]; exact (below_size (by repeat (first | (with_reducible first | exact HB.out | apply below_alloc | apply pw_below_drewN | apply below_drew1) | exact HB.out))) : w.heap.size ≤ gb303)); clear HB; have HB := n0_; have BK303 := n1_; have GW303 := n2_; have GE303 := n3_; clear n0_ n1_ n2_ n3_; clear hb hbox hg))
  (try simp only [Act.put, List.setIfInBounds_toArray, List.set_cons_zero, List.set_cons_succ])
  go_cut [14] (fun v14 wc => ∃ (kq : Nat) (x14_2 : Bool), v14 = .bool x14_2 ∧ Aside0 (pannierref01_Mod.j0 kq a0 a1 x14_2 = some (r1, r2)) ∧ Aside0 (kq ≤ k) ∧ Aside0 (wc.heap[gb303]? = some (.cells #[.int .i64 0, .bool false] 57 (0, 0))) ∧ Aside0 (Below w.heap.size w wc))
  case first =>
    have H := HC3.out
    clear HC3
    by_cases c5 : a1 = 0
    · rw [if_pos c5] at H
      have c5b0 : (a1 == 0) = true := beq_iff_eq.mpr c5
      have c5b1 : (a1 != 0) = false := bne_eq_false_iff_eq.mpr c5
      clear c5
      (first | rw [c5b0] | (simp only [i64_w, i32_w]; rw [c5b0]) | skip)
      have H' := Aside0.mk H
      clear H
      go_wp2
      go_meet
      case rel => exact ⟨_, (true), (by first | rfl | (simp; done) | (simp [*]; done)), H', ⟨by first | omega | exact Nat.le_refl _⟩, ⟨by (with_reducible repeat (first | refine blk_drewN ?_ _ | refine blk_drew ?_ | refine blk_alloc ?_ _)); exact BK303.out⟩, ⟨by repeat (first | (with_reducible first | exact HB.out | apply below_alloc | apply pw_below_drewN | apply below_drew1 | refine below_set ?_ GE303.out) | exact HB.out)⟩⟩
    · rw [if_neg c5] at H
      have c5b0 : (a1 == 0) = false := beq_eq_false_iff_ne.mpr c5
      have c5b1 : (a1 != 0) = true := bne_iff_ne.mpr c5
      (first | rw [c5b0] | (simp only [i64_w, i32_w]; rw [c5b0]) | skip)
      replace H := Option.bind_eq_some_iff.mp H
      obtain ⟨⟨t304, t305⟩, A60, H⟩ := H
      replace H : (pannierref01_Mod.j0 k a0 a1 (!t305)) = some (r1, r2) := H
      have A6 := Aside0.mk A60
      clear A60
      have H' := Aside0.mk H
      clear H
      go_wp2_with (first | (go_at_call 43; (with_reducible refine (pannierref01_Div.calls k a0 a1 t304 t305 _ A6.out).mono ?_); rintro e w7 ⟨rfl, hb⟩; have n0_ := Aside0.mk (blk_below (g := gb303) (o := .cells #[.int .i64 0, .bool false] 57 (0, 0)) (by (with_reducible repeat (first | refine blk_drewN ?_ _ | refine blk_drew ?_ | refine blk_alloc ?_ _)); exact BK303.out) hb); have n1_ := Aside0.mk (below_step (by repeat (first | (with_reducible first | exact HB.out | apply below_alloc | apply pw_below_drewN | apply below_drew1 | refine below_set ?_ GE303.out) | exact HB.out)) hb); clear BK303; clear HB; have BK303 := n0_; have HB := n1_; clear n0_ n1_; (try clear hb); (try clear hb2); (try clear hk); (try clear hi)))
      go_meet
      case rel => exact ⟨_, (!t305), (by first | rfl | (simp; done) | (simp [*]; done)), H', ⟨by first | omega | exact Nat.le_refl _⟩, ⟨by (with_reducible repeat (first | refine blk_drewN ?_ _ | refine blk_drew ?_ | refine blk_alloc ?_ _)); exact BK303.out⟩, ⟨by repeat (first | (with_reducible first | exact HB.out | apply below_alloc | apply pw_below_drewN | apply below_drew1 | refine below_set ?_ GE303.out) | exact HB.out)⟩⟩
  case rest =>
    clear HC3
    try clear p2
    try clear c4
    try clear c5
    try clear c5b0
    try clear c5b1
    obtain ⟨kq, x14_2, rfl, HA, HJ2, BK303, HB⟩ := hcut
    cases kq with
    | zero => exact absurd HA.out (by simp [pannierref01_Mod.j0])
    | succ kj2 =>
      have H := HA.out
      clear HA
      simp only [pannierref01_Mod.j0] at H
      by_cases c8 : x14_2 = true
      · subst c8
        have H1 : (some (0, false)) = some (r1, r2) := by rw [if_pos rfl] at H; exact H
        clear H
        have H := H1
        clear H1
        simp only [Option.some.injEq, Prod.mk.injEq] at H
        obtain ⟨rfl, rfl⟩ := H
        have hcz9_0 : wc.cell? ⟨gb303, 0, none⟩ = some (.int .i64 0) := (blk_cell BK303.out 0).trans rfl
        have hcz9_1 : wc.cell? ⟨gb303, 1, none⟩ = some (.bool false) := (blk_cell BK303.out 1).trans rfl
        have hfz9_0 := blk_frozen BK303.out 0
        have hfz9_1 := blk_frozen BK303.out 1
        go_wp2
        refine bodyPost_ret (results_cell_row rfl _ _ gb303 57 #[.int .i64 0, .bool false] (0, 0) _ rfl (by (with_reducible repeat (first | refine blk_drewN ?_ _ | refine blk_drew ?_ | refine blk_alloc ?_ _)); refine blk_put (cs := #[.int .i64 0, .bool false]) ?_ 1 _ rfl; (with_reducible repeat (first | refine blk_drewN ?_ _ | refine blk_drew ?_ | refine blk_alloc ?_ _)); refine blk_put (cs := #[.int .i64 0, .bool false]) ?_ 0 _ rfl; (with_reducible repeat (first | refine blk_drewN ?_ _ | refine blk_drew ?_ | refine blk_alloc ?_ _)); exact BK303.out) Tryd.underlying57 rfl (by kernel_rfl)) rfl ?_
        exact ⟨by first | rfl | (simp [errW_none, errW_some] <;> rfl) | (simp [*, errW_none, errW_some] <;> rfl), by repeat (first | (with_reducible first | exact HB.out | apply below_alloc | apply pw_below_drewN | apply below_drew1 | refine below_set ?_ GE303.out) | exact HB.out)⟩
      · replace c8 := Bool.eq_false_iff.mpr c8
        subst c8
        have H1 : ((pannierref01_whole.f a0).bind fun t306 => ((pannierref01_whole.f a1).bind fun t307 => (if t307 = 0 then (none) else (if a0 < 0 then ((pannierref01_signed.f kj2 (Int.tmod t306 t307) (decide ((Int.tmod t306 t307) > 0))).bind fun bt308 => (some (bt308.1, bt308.2))) else ((pannierref01_signed.f kj2 (Int.tmod t306 t307) false).bind fun bt310 => (some (bt310.1, bt310.2))))))) = some (r1, r2) := by rw [if_neg (show ¬ (false = true) by decide)] at H; exact H
        clear H
        have H := H1
        clear H1
        replace H := Option.bind_eq_some_iff.mp H
        obtain ⟨t306, A100, H⟩ := H
        replace H : ((pannierref01_whole.f a1).bind fun t307 => (if t307 = 0 then (none) else (if a0 < 0 then ((pannierref01_signed.f kj2 (Int.tmod t306 t307) (decide ((Int.tmod t306 t307) > 0))).bind fun bt308 => (some (bt308.1, bt308.2))) else ((pannierref01_signed.f kj2 (Int.tmod t306 t307) false).bind fun bt310 => (some (bt310.1, bt310.2)))))) = some (r1, r2) := H
        have A10 := Aside0.mk A100
        clear A100
        replace H := Option.bind_eq_some_iff.mp H
        obtain ⟨t307, A110, H⟩ := H
        replace H : (if t307 = 0 then (none) else (if a0 < 0 then ((pannierref01_signed.f kj2 (Int.tmod t306 t307) (decide ((Int.tmod t306 t307) > 0))).bind fun bt308 => (some (bt308.1, bt308.2))) else ((pannierref01_signed.f kj2 (Int.tmod t306 t307) false).bind fun bt310 => (some (bt310.1, bt310.2))))) = some (r1, r2) := H
        have A11 := Aside0.mk A110
        clear A110
        by_cases c12 : t307 = 0
        · rw [if_pos c12] at H
          exact absurd H (by simp)
        · rw [if_neg c12] at H
          have c12b0 : (t307 == 0) = false := beq_eq_false_iff_ne.mpr c12
          have c12b1 : (t307 != 0) = true := bne_iff_ne.mpr c12
          by_cases c13 : a0 < 0
          · rw [if_pos c13] at H
            have c13b0 : decide (a0 < 0) = true := decide_eq_true c13
            clear c13
            replace H := Option.bind_eq_some_iff.mp H
            obtain ⟨⟨t308, t309⟩, A140, H⟩ := H
            replace H : (some (t308, t309)) = some (r1, r2) := H
            have A14 := Aside0.mk A140
            clear A140
            simp only [Option.some.injEq, Prod.mk.injEq] at H
            obtain ⟨rfl, rfl⟩ := H
            go_wp2_with (first | ((with_reducible refine gate_callee (f := 61) rfl ?_); refine goesL_ (some 17) rfl rfl Tryd.func61 (by kernel_rfl) rfl #[.int .i64 a0] rfl (by (try simp only [List.map_toArray, List.map_cons, List.map_nil]); first | done | rfl | (simp only [List.length_drop, List.length_take]; rfl)) ?_; (with_reducible refine (pannierref01_whole.calls a0 t306 _ A10.out).mono ?_); rintro e w' ⟨rfl, ⟨nd, rfl⟩⟩; refine ⟨_, rfl, ?_⟩; (try (rw [drewN_self wc]; generalize hq_ : World.drewN wc _ = wc; have n0_ : Aside0 (wc.heap[gb303]? = some (.cells #[.int .i64 0, .bool false] 57 (0, 0))) := ⟨by rw [← hq_]; exact (by (with_reducible repeat (first | refine blk_drewN ?_ _ | refine blk_drew ?_ | refine blk_alloc ?_ _)); exact BK303.out)⟩; have n1_ : Aside0 (Below w.heap.size w wc) := ⟨by rw [← hq_]; exact (by repeat (first | (with_reducible first | exact HB.out | apply below_alloc | apply pw_below_drewN | apply below_drew1 | refine below_set ?_ GE303.out) | exact HB.out))⟩; clear BK303 HB hq_; have BK303 := n0_; have HB := n1_; clear n0_ n1_))) | ((with_reducible refine gate_callee (f := 61) rfl ?_); refine goesL_ (some 19) rfl rfl Tryd.func61 (by kernel_rfl) rfl #[.int .i64 a1] rfl (by (try simp only [List.map_toArray, List.map_cons, List.map_nil]); first | done | rfl | (simp only [List.length_drop, List.length_take]; rfl)) ?_; (with_reducible refine (pannierref01_whole.calls a1 t307 _ A11.out).mono ?_); rintro e w' ⟨rfl, ⟨nd, rfl⟩⟩; refine ⟨_, rfl, ?_⟩; (try (rw [drewN_self wc]; generalize hq_ : World.drewN wc _ = wc; have n0_ : Aside0 (wc.heap[gb303]? = some (.cells #[.int .i64 0, .bool false] 57 (0, 0))) := ⟨by rw [← hq_]; exact (by (with_reducible repeat (first | refine blk_drewN ?_ _ | refine blk_drew ?_ | refine blk_alloc ?_ _)); exact BK303.out)⟩; have n1_ : Aside0 (Below w.heap.size w wc) := ⟨by rw [← hq_]; exact (by repeat (first | (with_reducible first | exact HB.out | apply below_alloc | apply pw_below_drewN | apply below_drew1 | refine below_set ?_ GE303.out) | exact HB.out))⟩; clear BK303 HB hq_; have BK303 := n0_; have HB := n1_; clear n0_ n1_))) | ((with_reducible refine gate_callee (f := 58) rfl ?_); refine goesL_ (some 28) rfl rfl Tryd.func58 (by kernel_rfl) rfl #[.int .u64 (Int.tmod t306 t307), .bool (decide ((Int.tmod t306 t307) > 0))] rfl (by (try simp only [List.map_toArray, List.map_cons, List.map_nil]); first | done | rfl | (simp only [List.length_drop, List.length_take]; rfl)) ?_; (with_reducible refine (pannierref01_signed.calls kj2 (Int.tmod t306 t307) (decide ((Int.tmod t306 t307) > 0)) t308 t309 _ A14.out).mono ?_); rintro e w15 ⟨rfl, hb⟩; refine ⟨_, rfl, ?_⟩; have n0_ := Aside0.mk (blk_below (g := gb303) (o := .cells #[.int .i64 0, .bool false] 57 (0, 0)) (by (with_reducible repeat (first | refine blk_drewN ?_ _ | refine blk_drew ?_ | refine blk_alloc ?_ _)); exact BK303.out) hb); have n1_ := Aside0.mk (below_step (by repeat (first | (with_reducible first | exact HB.out | apply below_alloc | apply pw_below_drewN | apply below_drew1 | refine below_set ?_ GE303.out) | exact HB.out)) hb); clear BK303; clear HB; have BK303 := n0_; have HB := n1_; clear n0_ n1_; (try clear hb); (try clear hb2); (try clear hk); (try clear hi); have hcz16_0 : w15.cell? ⟨gb303, 0, none⟩ = some (.int .i64 0) := (blk_cell BK303.out 0).trans rfl; have hcz16_1 : w15.cell? ⟨gb303, 1, none⟩ = some (.bool false) := (blk_cell BK303.out 1).trans rfl; have hfz16_0 := blk_frozen BK303.out 0; have hfz16_1 := blk_frozen BK303.out 1))
            refine bodyPost_ret (results_cell_row rfl _ _ gb303 57 #[.int .i64 t308, .bool t309] (0, 0) _ rfl (by (with_reducible repeat (first | refine blk_drewN ?_ _ | refine blk_drew ?_ | refine blk_alloc ?_ _)); refine blk_put (cs := #[.int .i64 t308, .bool false]) ?_ 1 _ rfl; (with_reducible repeat (first | refine blk_drewN ?_ _ | refine blk_drew ?_ | refine blk_alloc ?_ _)); refine blk_put (cs := #[.int .i64 0, .bool false]) ?_ 0 _ rfl; (with_reducible repeat (first | refine blk_drewN ?_ _ | refine blk_drew ?_ | refine blk_alloc ?_ _)); exact BK303.out) Tryd.underlying57 rfl (by kernel_rfl)) rfl ?_
            exact ⟨by first | rfl | (simp [errW_none, errW_some] <;> rfl) | (simp [*, errW_none, errW_some] <;> rfl), by repeat (first | (with_reducible first | exact HB.out | apply below_alloc | apply pw_below_drewN | apply below_drew1 | refine below_set ?_ GE303.out) | exact HB.out)⟩
          · rw [if_neg c13] at H
            have c13b0 : decide (a0 < 0) = false := decide_eq_false c13
            clear c13
            replace H := Option.bind_eq_some_iff.mp H
            obtain ⟨⟨t310, t311⟩, A170, H⟩ := H
            replace H : (some (t310, t311)) = some (r1, r2) := H
            have A17 := Aside0.mk A170
            clear A170
            simp only [Option.some.injEq, Prod.mk.injEq] at H
            obtain ⟨rfl, rfl⟩ := H
            go_wp2_with (first | ((with_reducible refine gate_callee (f := 61) rfl ?_); refine goesL_ (some 17) rfl rfl Tryd.func61 (by kernel_rfl) rfl #[.int .i64 a0] rfl (by (try simp only [List.map_toArray, List.map_cons, List.map_nil]); first | done | rfl | (simp only [List.length_drop, List.length_take]; rfl)) ?_; (with_reducible refine (pannierref01_whole.calls a0 t306 _ A10.out).mono ?_); rintro e w' ⟨rfl, ⟨nd, rfl⟩⟩; refine ⟨_, rfl, ?_⟩; (try (rw [drewN_self wc]; generalize hq_ : World.drewN wc _ = wc; have n0_ : Aside0 (wc.heap[gb303]? = some (.cells #[.int .i64 0, .bool false] 57 (0, 0))) := ⟨by rw [← hq_]; exact (by (with_reducible repeat (first | refine blk_drewN ?_ _ | refine blk_drew ?_ | refine blk_alloc ?_ _)); exact BK303.out)⟩; have n1_ : Aside0 (Below w.heap.size w wc) := ⟨by rw [← hq_]; exact (by repeat (first | (with_reducible first | exact HB.out | apply below_alloc | apply pw_below_drewN | apply below_drew1 | refine below_set ?_ GE303.out) | exact HB.out))⟩; clear BK303 HB hq_; have BK303 := n0_; have HB := n1_; clear n0_ n1_))) | ((with_reducible refine gate_callee (f := 61) rfl ?_); refine goesL_ (some 19) rfl rfl Tryd.func61 (by kernel_rfl) rfl #[.int .i64 a1] rfl (by (try simp only [List.map_toArray, List.map_cons, List.map_nil]); first | done | rfl | (simp only [List.length_drop, List.length_take]; rfl)) ?_; (with_reducible refine (pannierref01_whole.calls a1 t307 _ A11.out).mono ?_); rintro e w' ⟨rfl, ⟨nd, rfl⟩⟩; refine ⟨_, rfl, ?_⟩; (try (rw [drewN_self wc]; generalize hq_ : World.drewN wc _ = wc; have n0_ : Aside0 (wc.heap[gb303]? = some (.cells #[.int .i64 0, .bool false] 57 (0, 0))) := ⟨by rw [← hq_]; exact (by (with_reducible repeat (first | refine blk_drewN ?_ _ | refine blk_drew ?_ | refine blk_alloc ?_ _)); exact BK303.out)⟩; have n1_ : Aside0 (Below w.heap.size w wc) := ⟨by rw [← hq_]; exact (by repeat (first | (with_reducible first | exact HB.out | apply below_alloc | apply pw_below_drewN | apply below_drew1 | refine below_set ?_ GE303.out) | exact HB.out))⟩; clear BK303 HB hq_; have BK303 := n0_; have HB := n1_; clear n0_ n1_))) | ((with_reducible refine gate_callee (f := 58) rfl ?_); refine goesL_ (some 28) rfl rfl Tryd.func58 (by kernel_rfl) rfl #[.int .u64 (Int.tmod t306 t307), .bool false] rfl (by (try simp only [List.map_toArray, List.map_cons, List.map_nil]); first | done | rfl | (simp only [List.length_drop, List.length_take]; rfl)) ?_; (with_reducible refine (pannierref01_signed.calls kj2 (Int.tmod t306 t307) false t310 t311 _ A17.out).mono ?_); rintro e w18 ⟨rfl, hb⟩; refine ⟨_, rfl, ?_⟩; have n0_ := Aside0.mk (blk_below (g := gb303) (o := .cells #[.int .i64 0, .bool false] 57 (0, 0)) (by (with_reducible repeat (first | refine blk_drewN ?_ _ | refine blk_drew ?_ | refine blk_alloc ?_ _)); exact BK303.out) hb); have n1_ := Aside0.mk (below_step (by repeat (first | (with_reducible first | exact HB.out | apply below_alloc | apply pw_below_drewN | apply below_drew1 | refine below_set ?_ GE303.out) | exact HB.out)) hb); clear BK303; clear HB; have BK303 := n0_; have HB := n1_; clear n0_ n1_; (try clear hb); (try clear hb2); (try clear hk); (try clear hi); have hcz19_0 : w18.cell? ⟨gb303, 0, none⟩ = some (.int .i64 0) := (blk_cell BK303.out 0).trans rfl; have hcz19_1 : w18.cell? ⟨gb303, 1, none⟩ = some (.bool false) := (blk_cell BK303.out 1).trans rfl; have hfz19_0 := blk_frozen BK303.out 0; have hfz19_1 := blk_frozen BK303.out 1))
            refine bodyPost_ret (results_cell_row rfl _ _ gb303 57 #[.int .i64 t310, .bool t311] (0, 0) _ rfl (by (with_reducible repeat (first | refine blk_drewN ?_ _ | refine blk_drew ?_ | refine blk_alloc ?_ _)); refine blk_put (cs := #[.int .i64 t310, .bool false]) ?_ 1 _ rfl; (with_reducible repeat (first | refine blk_drewN ?_ _ | refine blk_drew ?_ | refine blk_alloc ?_ _)); refine blk_put (cs := #[.int .i64 0, .bool false]) ?_ 0 _ rfl; (with_reducible repeat (first | refine blk_drewN ?_ _ | refine blk_drew ?_ | refine blk_alloc ?_ _)); exact BK303.out) Tryd.underlying57 rfl (by kernel_rfl)) rfl ?_
            exact ⟨by first | rfl | (simp [errW_none, errW_some] <;> rfl) | (simp [*, errW_none, errW_some] <;> rfl), by repeat (first | (with_reducible first | exact HB.out | apply below_alloc | apply pw_below_drewN | apply below_drew1 | refine below_set ?_ GE303.out) | exact HB.out)⟩

end Go.Proofs.YtohfidjbnmlfeaaDoor.P

/- What the sums, differences, products and quotients of the program and of the reference come to: the whole number, if it is one of 64 bits. -/
namespace Go.Proofs.YtohfidjbnmlfeaaDoor.P
open Go.RowKit Go.Proofs.YtohfidjbnmlfeaaDoorW.PrintWords Go.Proofs.YtohfidjbnmlfeaaDoorW.PrintLast Go.Proofs.YtohfidjbnmlfeaaDoorW.PrintMore
open M (fit I64 u64w)
set_option linter.unusedVariables false
set_option linter.unusedSimpArgs false

/-! ### The program -/
theorem add_eq (a b : Int) (ha : I64 a) (hb : I64 b) : num_Add.f a b = some (fit (a + b)) := by
  unfold num_Add.f
  have hc := M.wrap64_in (a + b)
  have h := M.and_neg _ _ (M.bits_in .xor a (wrap64 (a + b))) (M.bits_in .xor b (wrap64 (a + b)))
  rw [M.xor_neg _ _ ha hc, M.xor_neg _ _ hb hc] at h
  have hw : wrap64 (a + b) = (a + b + 9223372036854775808) % 18446744073709551616 - 9223372036854775808 := by unfold wrap64; rfl
  unfold I64 at ha hb
  by_cases h0 : a + b < -9223372036854775808 ∨ 9223372036854775807 < a + b
  · rw [if_pos]
    · rw [M.fit_out (by omega)]
    · apply of_decide_eq_true; rw [h]
      simp only [Bool.and_eq_true, bne_iff_ne, ne_eq, decide_eq_decide]
      omega
  · rw [if_neg]
    · rw [M.fit_in (by omega), M.wrap64_id (by unfold I64; omega)]
    · apply of_decide_eq_false; rw [h]
      simp only [Bool.and_eq_false_iff, bne_eq_false_iff_eq, decide_eq_decide]
      omega
theorem sub_eq (a b : Int) (ha : I64 a) (hb : I64 b) : num_Sub.f a b = some (fit (a - b)) := by
  unfold num_Sub.f
  have hc := M.wrap64_in (a - b)
  have h := M.and_neg _ _ (M.bits_in .xor a b) (M.bits_in .xor a (wrap64 (a - b)))
  rw [M.xor_neg _ _ ha hc, M.xor_neg _ _ ha hb] at h
  have hw : wrap64 (a - b) = (a - b + 9223372036854775808) % 18446744073709551616 - 9223372036854775808 := by unfold wrap64; rfl
  unfold I64 at ha hb
  by_cases h0 : a - b < -9223372036854775808 ∨ 9223372036854775807 < a - b
  · rw [if_pos]
    · rw [M.fit_out (by omega)]
    · apply of_decide_eq_true; rw [h]
      simp only [Bool.and_eq_true, bne_iff_ne, ne_eq, decide_eq_decide]
      omega
  · rw [if_neg]
    · rw [M.fit_in (by omega), M.wrap64_id (by unfold I64; omega)]
    · apply of_decide_eq_false; rw [h]
      simp only [Bool.and_eq_false_iff, bne_eq_false_iff_eq, decide_eq_decide]
      omega
theorem size_eq (a : Int) (ha : I64 a) : num_size.f a = some (a.natAbs : Int) := by
  unfold num_size.f; unfold I64 at ha
  split
  · rw [u64w, u64w]; congr 1; omega
  · rw [u64w]; congr 1; omega
theorem signed_eq (k : Nat) (u : Int) (b : Bool) (h0 : 0 ≤ u) (h1 : u < 18446744073709551616) : num_signed.f (k + 1) u b = some (fit (if b = true then -u else u)) := by
  unfold num_signed.f
  cases b
  · simp only [num_signed.j0, Bool.false_eq_true, if_false]
    by_cases h : u ≤ 9223372036854775807
    · rw [if_pos h, M.fit_in (by omega), M.wrap64_id (by unfold I64; omega)]
    · rw [if_neg h, M.fit_out (by omega)]
  · simp only [num_signed.j0, if_true, decide_eq_true_eq]
    by_cases h : u ≤ 9223372036854775808
    · rw [if_pos h, M.fit_in (by omega), u64w]
      congr 2; unfold wrap64; omega
    · rw [if_neg h, M.fit_out (by omega)]
theorem apart_eq (k : Nat) (a b : Int) : num_apart.f (k + 1) a b = some (decide (a < 0) != decide (b < 0)) := by
  unfold num_apart.f
  by_cases h0 : a < 0 <;> by_cases h1 : b < 0 <;> simp [num_apart.j0, h0, h1]
theorem mul_eq (k : Nat) (a b : Int) (ha : I64 a) (hb : I64 b) : num_Mul.f (k + 1) a b = some (fit (a * b)) := by
  unfold num_Mul.f
  have hm := M.mul_sizes a b
  have hx : a.natAbs * b.natAbs ≤ 9223372036854775808 * 9223372036854775808 := Nat.mul_le_mul (by unfold I64 at ha; omega) (by unfold I64 at hb; omega)
  rw [size_eq a ha, Option.bind_some, size_eq b hb, Option.bind_some]
  unfold bits_Mul64.f
  rw [if_pos (by unfold I64 at ha hb; omega), Option.bind_some]
  rw [show (a.natAbs : Int) * (b.natAbs : Int) = ((a.natAbs * b.natAbs : Nat) : Int) by rw [Int.natCast_mul]]
  generalize a.natAbs * b.natAbs = m at *
  rw [apart_eq, Option.bind_some, signed_eq _ _ _ (by omega) (by omega), Option.bind_some, hm]
  generalize (decide (a < 0) != decide (b < 0)) = c
  by_cases h : (m : Int) / 18446744073709551616 > 0
  · rw [if_pos h, M.fit_out (by split <;> omega)]
  · rw [if_neg h, show (m : Int) % 18446744073709551616 = m by omega]

/-! ### The reference -/
theorem whole_eq (a : Int) (ha : I64 a) : pannierref01_whole.f a = some (a.natAbs : Int) := by
  unfold pannierref01_whole.f; unfold I64 at ha
  split
  · rw [u64w, u64w]; unfold wrap64; congr 1; omega
  · rw [u64w]; congr 1; omega
theorem rsigned_eq (k : Nat) (u : Int) (b : Bool) (h0 : 0 ≤ u) (h1 : u < 18446744073709551616) : pannierref01_signed.f (k + 1) u b = some (fit (if b = true then -u else u)) := by
  unfold pannierref01_signed.f
  cases b
  · simp only [pannierref01_signed.j0, Bool.false_eq_true, if_false]
    by_cases h : u ≥ 9223372036854775808
    · rw [if_pos h, M.fit_out (by omega)]
    · rw [if_neg h, M.fit_in (by omega), M.wrap64_id (by unfold I64; omega)]
  · simp only [pannierref01_signed.j0, if_true, beq_iff_eq]
    by_cases h : u = 9223372036854775808
    · subst h; rfl
    · rw [if_neg h]
      by_cases h2 : u ≥ 9223372036854775808
      · rw [if_pos h2, M.fit_out (by omega)]
      · rw [if_neg h2, M.fit_in (by omega)]; congr 2; unfold wrap64; omega
theorem fit_pair (n : Int) : ((fit n).1, (fit n).2) = fit n := rfl
theorem radd_eq (k : Nat) (a b : Int) (ha : I64 a) (hb : I64 b) : pannierref01_Add.f (k + 1) a b = some (fit (a + b)) := by
  unfold pannierref01_Add.f
  rw [whole_eq a ha, Option.bind_some, whole_eq b hb, Option.bind_some]
  simp only [u64w, pannierref01_Got_or.f]
  unfold I64 at ha hb
  by_cases h0 : a < 0 <;> by_cases h1 : b < 0
  · rw [if_pos (by simp [h0, h1]), if_pos h0, rsigned_eq _ _ _ (by omega) (by omega)]
    simp only [Option.bind_some]
    by_cases h2 : ((a.natAbs : Int) + b.natAbs) % 18446744073709551616 < a.natAbs
    · rw [if_pos (decide_eq_true h2), Option.bind_some, M.fit_out (by omega)]
    · rw [if_neg (by simpa using h2), Option.bind_some, fit_pair]
      rw [decide_eq_true (by omega), if_pos rfl]; congr 2; omega
  · rw [if_neg (by simp [h0, h1])]
    by_cases h2 : (a.natAbs : Int) ≥ b.natAbs
    · rw [if_pos h2, if_pos h0, rsigned_eq _ _ _ (by omega) (by omega), Option.bind_some, fit_pair]
      congr 2
      by_cases h3 : (a.natAbs : Int) > b.natAbs
      · rw [decide_eq_true h3, if_pos rfl]; omega
      · rw [decide_eq_false h3, if_neg (by simp)]; omega
    · rw [if_neg h2, rsigned_eq _ _ _ (by omega) (by omega), Option.bind_some, fit_pair, decide_eq_false h1, if_neg (by simp)]; congr 2; omega
  · rw [if_neg (by simp [h0, h1])]
    by_cases h2 : (a.natAbs : Int) ≥ b.natAbs
    · rw [if_pos h2, if_neg h0, rsigned_eq _ _ _ (by omega) (by omega), Option.bind_some, fit_pair, if_neg (by simp)]
      congr 2; omega
    · rw [if_neg h2, rsigned_eq _ _ _ (by omega) (by omega), Option.bind_some, fit_pair, decide_eq_true h1, if_pos rfl]; congr 2; omega
  · rw [if_pos (by simp [h0, h1]), if_neg h0, rsigned_eq _ _ _ (by omega) (by omega)]
    simp only [Option.bind_some]
    by_cases h2 : ((a.natAbs : Int) + b.natAbs) % 18446744073709551616 < a.natAbs
    · omega
    · rw [if_neg (by simpa using h2), Option.bind_some, fit_pair, if_neg (by simp)]
      congr 2; omega
theorem rsub_eq (k : Nat) (a b : Int) (ha : I64 a) (hb : I64 b) : pannierref01_Sub.f (k + 1) a b = some (fit (a - b)) := by
  unfold pannierref01_Sub.f
  by_cases h : b = -9223372036854775808
  · subst h
    rw [if_pos rfl]
    by_cases h2 : a ≥ 0
    · rw [if_pos h2, M.fit_out (by omega)]
    · unfold I64 at ha
      rw [if_neg h2, M.wrap64_id (by unfold I64; omega), radd_eq _ _ _ (by unfold I64; omega) (by unfold I64; omega), Option.bind_some, fit_pair]
      congr 2; omega
  · unfold I64 at ha hb
    rw [if_neg h, M.wrap64_id (by unfold I64; omega), radd_eq _ _ _ (by unfold I64; omega) (by unfold I64; omega), Option.bind_some, fit_pair]
    congr 2
end Go.Proofs.YtohfidjbnmlfeaaDoor.P

namespace Go.Proofs.YtohfidjbnmlfeaaDoor.P
open Go.RowKit Go.Proofs.YtohfidjbnmlfeaaDoorW.PrintWords Go.Proofs.YtohfidjbnmlfeaaDoorW.PrintLast Go.Proofs.YtohfidjbnmlfeaaDoorW.PrintMore
attribute [local go_sem] max2_int min2_int max_two min_two max_three min_three max_four min_four   -- for this text's walks alone
set_option linter.unusedVariables false
set_option linter.unusedSimpArgs false

/-! ### num_Gcd: function 42 -/
def num_Gcd.l0 : Nat → Int → Int → Option (Int × Bool)
  | 0, _, _ => none
  | k + 1, x6, x7 => if x7 > 0 then (if x7 = 0 then (none) else (num_Gcd.l0 k x7 (Int.tmod x6 x7))) else ((num_signed.f k x6 false).bind fun bt294 => (some (bt294.1, bt294.2)))
def num_Gcd.f (k : Nat) (a0 : Int) (a1 : Int) : Option (Int × Bool) := (num_size.f a0).bind fun t292 => ((num_size.f a1).bind fun t293 => (num_Gcd.l0 k t292 t293))
theorem num_Gcd.mono_l : ∀ k, (∀ y0 y1, LeO (num_Gcd.l0 k y0 y1) (num_Gcd.l0 (k + 1) y0 y1))
  | 0 => fun _ _ r h => by simp [num_Gcd.l0] at h
  | k + 1 => by
    have ih0 := num_Gcd.mono_l k
    · intro y0 y1
      unfold num_Gcd.l0
      repeat' first
      | (with_reducible exact ih0 _ _)
      | (with_reducible exact num_signed.mono _ _ _)
      | (with_reducible exact LeO.refl _)
      | (with_reducible exact LeO.none _)
      | (with_reducible refine LeO.ite ?_ ?_)
      | (with_reducible refine LeO.bind ?_ (fun _ => ?_))
      | exact ih0 _ _
      | exact num_signed.mono _ _ _
      | exact LeO.none _
      | refine LeO.ite ?_ ?_
      | refine LeO.bind ?_ (fun _ => ?_)
theorem num_Gcd.mono : ∀ a0 a1 k, LeO (num_Gcd.f k a0 a1) (num_Gcd.f (k + 1) a0 a1) := by
  intro a0 a1 k
  have ih0 := num_Gcd.mono_l k
  unfold num_Gcd.f
  repeat' first
      | (with_reducible exact ih0 _ _)
      | (with_reducible exact num_signed.mono _ _ _)
      | (with_reducible exact LeO.refl _)
      | (with_reducible exact LeO.none _)
      | (with_reducible refine LeO.ite ?_ ?_)
      | (with_reducible refine LeO.bind ?_ (fun _ => ?_))
      | exact ih0 _ _
      | exact num_signed.mono _ _ _
      | exact LeO.none _
      | refine LeO.ite ?_ ?_
      | refine LeO.bind ?_ (fun _ => ?_)
set_option maxHeartbeats 8000000 in
set_option maxRecDepth 100000 in
theorem num_Gcd.calls (k : Nat) (a0 : Int) (a1 : Int) (r1 : Int) (r2 : Bool) (w : World) (h : num_Gcd.f k a0 a1 = some (r1, r2)) :
    Calls Tryd.prog 42 #[.int .i64 a0, .int .i64 a1] w fun e w' => e = .returned (.tuple #[.int .i64 r1, .bool r2]) ∧ Drawn0 w w' := by
  have H : ((num_size.f a0).bind fun t292 => ((num_size.f a1).bind fun t293 => (num_Gcd.l0 k t292 t293))) = some (r1, r2) := h
  clear h
  replace H := Option.bind_eq_some_iff.mp H
  obtain ⟨t292, A30, H⟩ := H
  replace H : ((num_size.f a1).bind fun t293 => (num_Gcd.l0 k t292 t293)) = some (r1, r2) := H
  have A3 := Aside0.mk A30
  clear A30
  replace H := Option.bind_eq_some_iff.mp H
  obtain ⟨t293, A40, H⟩ := H
  replace H : (num_Gcd.l0 k t292 t293) = some (r1, r2) := H
  have A4 := Aside0.mk A40
  clear A40
  have H' := Aside0.mk H
  clear H
  go_enter Tryd.func42, Tryd.ntmps42
  go_wp2_with (first | (go_at_call 62; (with_reducible refine (num_size.calls a0 t292 _ A3.out).mono ?_); rintro e w' ⟨rfl, ⟨nd, rfl⟩⟩; (try first | exact ⟨rfl, _, World.drewN_drewN _ _ _⟩ | exact ⟨rfl, _, Eq.trans (World.drewN_drewN _ _ _) (congrArg (World.drewN _) (Nat.add_assoc _ _ _))⟩)) | (go_at_call 62; (with_reducible refine (num_size.calls a1 t293 _ A4.out).mono ?_); rintro e w' ⟨rfl, ⟨nd, rfl⟩⟩; (try first | exact ⟨rfl, _, World.drewN_drewN _ _ _⟩ | exact ⟨rfl, _, Eq.trans (World.drewN_drewN _ _ _) (congrArg (World.drewN _) (Nat.add_assoc _ _ _))⟩)))
  repeat (go_quiet (first | (go_at_call 62; (with_reducible refine (num_size.calls a0 t292 _ A3.out).mono ?_); rintro e w' ⟨rfl, ⟨nd, rfl⟩⟩; (try first | exact ⟨rfl, _, World.drewN_drewN _ _ _⟩ | exact ⟨rfl, _, Eq.trans (World.drewN_drewN _ _ _) (congrArg (World.drewN _) (Nat.add_assoc _ _ _))⟩)) | (go_at_call 62; (with_reducible refine (num_size.calls a1 t293 _ A4.out).mono ?_); rintro e w' ⟨rfl, ⟨nd, rfl⟩⟩; (try first | exact ⟨rfl, _, World.drewN_drewN _ _ _⟩ | exact ⟨rfl, _, Eq.trans (World.drewN_drewN _ _ _) (congrArg (World.drewN _) (Nat.add_assoc _ _ _))⟩))); try go_wp2_with (first | (go_at_call 62; (with_reducible refine (num_size.calls a0 t292 _ A3.out).mono ?_); rintro e w' ⟨rfl, ⟨nd, rfl⟩⟩; (try first | exact ⟨rfl, _, World.drewN_drewN _ _ _⟩ | exact ⟨rfl, _, Eq.trans (World.drewN_drewN _ _ _) (congrArg (World.drewN _) (Nat.add_assoc _ _ _))⟩)) | (go_at_call 62; (with_reducible refine (num_size.calls a1 t293 _ A4.out).mono ?_); rintro e w' ⟨rfl, ⟨nd, rfl⟩⟩; (try first | exact ⟨rfl, _, World.drewN_drewN _ _ _⟩ | exact ⟨rfl, _, Eq.trans (World.drewN_drewN _ _ _) (congrArg (World.drewN _) (Nat.add_assoc _ _ _))⟩))))
  go_loopg [6, 7] k (fun kq v6 v7 w' => ∃ (x6_1 : Int) (x7_1 : Int), v6 = .int .u64 x6_1 ∧ v7 = .int .u64 x7_1 ∧ Aside0 (num_Gcd.l0 kq x6_1 x7_1 = some (r1, r2)) ∧ Aside0 (kq ≤ k) ∧ Drawn0 w w')
  case atStart => exact ⟨(t292), (t293), (by first | rfl | (simp; done) | (simp [*]; done)), (by first | rfl | (simp; done) | (simp [*]; done)), H', ⟨Nat.le_refl _⟩, by repeat (first | exact Drawn0.refl _ | apply Drawn0.step)⟩
  case round =>
    clear H'
    try clear p2
    try clear c4
    obtain ⟨x6_1, x7_1, rfl, rfl, HA, HK1, ⟨m1, rfl⟩⟩ := hrel
    cases gk with
    | zero => exact absurd HA.out (by simp [num_Gcd.l0])
    | succ k1 =>
      have H := HA.out
      clear HA
      simp only [num_Gcd.l0] at H
      by_cases c5 : x7_1 > 0
      · rw [if_pos c5] at H
        have c5b0 : decide (0 < x7_1) = true := decide_eq_true c5
        clear c5
        by_cases c6 : x7_1 = 0
        · rw [if_pos c6] at H
          exact absurd H (by simp)
        · rw [if_neg c6] at H
          have c6b0 : (x7_1 == 0) = false := beq_eq_false_iff_ne.mpr c6
          have c6b1 : (x7_1 != 0) = true := bne_iff_ne.mpr c6
          have H' := Aside0.mk H
          clear H
          go_wp2
          repeat (go_quiet (fail); try go_wp2)
          go_roundg k1
          case measure => have := HK1.out; omega
          case rel => exact ⟨(x7_1), (Int.tmod x6_1 x7_1), (by first | rfl | (simp; done) | (simp [*]; done)), (by first | rfl | (simp; done) | (simp [*]; done)), H', ⟨by have := HK1.out; omega⟩, by repeat (first | exact Drawn0.refl _ | apply Drawn0.step)⟩
      · rw [if_neg c5] at H
        have c5b0 : decide (0 < x7_1) = false := decide_eq_false c5
        clear c5
        replace H := Option.bind_eq_some_iff.mp H
        obtain ⟨⟨t294, t295⟩, A70, H⟩ := H
        replace H : (some (t294, t295)) = some (r1, r2) := H
        have A7 := Aside0.mk A70
        clear A70
        simp only [Option.some.injEq, Prod.mk.injEq] at H
        obtain ⟨rfl, rfl⟩ := H
        go_wp2_with (first | (go_at_call 63; (with_reducible refine (num_signed.calls k1 x6_1 false t294 t295 _ A7.out).mono ?_); rintro e w' ⟨rfl, ⟨nd, rfl⟩⟩; (try first | exact ⟨rfl, _, World.drewN_drewN _ _ _⟩ | exact ⟨rfl, _, Eq.trans (World.drewN_drewN _ _ _) (congrArg (World.drewN _) (Nat.add_assoc _ _ _))⟩)))
        repeat (go_quiet (first | (go_at_call 63; (with_reducible refine (num_signed.calls k1 x6_1 false t294 t295 _ A7.out).mono ?_); rintro e w' ⟨rfl, ⟨nd, rfl⟩⟩; (try first | exact ⟨rfl, _, World.drewN_drewN _ _ _⟩ | exact ⟨rfl, _, Eq.trans (World.drewN_drewN _ _ _) (congrArg (World.drewN _) (Nat.add_assoc _ _ _))⟩))); try go_wp2_with (first | (go_at_call 63; (with_reducible refine (num_signed.calls k1 x6_1 false t294 t295 _ A7.out).mono ?_); rintro e w' ⟨rfl, ⟨nd, rfl⟩⟩; (try first | exact ⟨rfl, _, World.drewN_drewN _ _ _⟩ | exact ⟨rfl, _, Eq.trans (World.drewN_drewN _ _ _) (congrArg (World.drewN _) (Nat.add_assoc _ _ _))⟩))))
        go_ret2
        exact ⟨by first | rfl | (simp; done) | (simp [*]; done), by repeat (first | exact Drawn0.refl _ | apply Drawn0.step)⟩

end Go.Proofs.YtohfidjbnmlfeaaDoor.P

namespace Go.Proofs.YtohfidjbnmlfeaaDoor.P
open Go.RowKit Go.Proofs.YtohfidjbnmlfeaaDoorW.PrintWords Go.Proofs.YtohfidjbnmlfeaaDoorW.PrintLast Go.Proofs.YtohfidjbnmlfeaaDoorW.PrintMore
attribute [local go_sem] max2_int min2_int max_two min_two max_three min_three max_four min_four   -- for this text's walks alone
set_option linter.unusedVariables false
set_option linter.unusedSimpArgs false

/-! ### pannierref01_Pow: function 45 -/
mutual
def pannierref01_Pow.l0 : Nat → Int → Int → Int → Int → Bool → Option (Int × Bool)
  | 0, _, _, _, _, _ => none
  | k + 1, x0, x1, x6, x321000, x321001 => if x6 < x1 then (pannierref01_Pow.j1 k x0 x1 x6 (decide (x6 < 65)) x321000 x321001) else (pannierref01_Pow.j1 k x0 x1 x6 false x321000 x321001)
def pannierref01_Pow.j1 : Nat → Int → Int → Int → Bool → Int → Bool → Option (Int × Bool)
  | 0, _, _, _, _, _, _ => none
  | k + 1, x0, x1, x6, x37, x321000, x321001 => if x37 = true then ((pannierref01_Mul.f k x321000 x0).bind fun bt321 => (if bt321.2 = true then (pannierref01_Pow.l0 k x0 x1 (wrap64 (x6 + 1)) bt321.1 bt321.2) else (some (0, false)))) else (some (x321000, x321001))
end
def pannierref01_Pow.f (k : Nat) (a0 : Int) (a1 : Int) : Option (Int × Bool) := if a1 < 0 then (some (0, false)) else (if a0 = 0 then (if a1 = 0 then (some (1, true)) else (some (0, true))) else (if a0 = 1 then (some (1, true)) else (if a0 = (-1) then (some (wrap64 (1 - (wrap64 ((Int.tmod a1 2) * 2))), true)) else (if a1 > 64 then (some (0, false)) else (pannierref01_Pow.l0 k a0 a1 0 1 true)))))
theorem pannierref01_Pow.mono_l : ∀ k, (∀ y0 y1 y2 y3 y4, LeO (pannierref01_Pow.l0 k y0 y1 y2 y3 y4) (pannierref01_Pow.l0 (k + 1) y0 y1 y2 y3 y4)) ∧ (∀ y0 y1 y2 y3 y4 y5, LeO (pannierref01_Pow.j1 k y0 y1 y2 y3 y4 y5) (pannierref01_Pow.j1 (k + 1) y0 y1 y2 y3 y4 y5))
  | 0 => ⟨fun _ _ _ _ _ r h => by simp [pannierref01_Pow.l0] at h, fun _ _ _ _ _ _ r h => by simp [pannierref01_Pow.j1] at h⟩
  | k + 1 => by
    obtain ⟨ih0, ih1⟩ := pannierref01_Pow.mono_l k
    refine ⟨?_, ?_⟩
    · intro y0 y1 y2 y3 y4
      unfold pannierref01_Pow.l0
      repeat' first
      | (with_reducible exact ih0 _ _ _ _ _)
      | (with_reducible exact ih1 _ _ _ _ _ _)
      | (with_reducible exact pannierref01_Mul.mono _ _ _)
      | (with_reducible exact LeO.refl _)
      | (with_reducible exact LeO.none _)
      | (with_reducible refine LeO.ite ?_ ?_)
      | (with_reducible refine LeO.bind ?_ (fun _ => ?_))
      | exact ih0 _ _ _ _ _
      | exact ih1 _ _ _ _ _ _
      | exact pannierref01_Mul.mono _ _ _
      | exact LeO.none _
      | refine LeO.ite ?_ ?_
      | refine LeO.bind ?_ (fun _ => ?_)
    · intro y0 y1 y2 y3 y4 y5
      unfold pannierref01_Pow.j1
      repeat' first
      | (with_reducible exact ih0 _ _ _ _ _)
      | (with_reducible exact ih1 _ _ _ _ _ _)
      | (with_reducible exact pannierref01_Mul.mono _ _ _)
      | (with_reducible exact LeO.refl _)
      | (with_reducible exact LeO.none _)
      | (with_reducible refine LeO.ite ?_ ?_)
      | (with_reducible refine LeO.bind ?_ (fun _ => ?_))
      | exact ih0 _ _ _ _ _
      | exact ih1 _ _ _ _ _ _
      | exact pannierref01_Mul.mono _ _ _
      | exact LeO.none _
      | refine LeO.ite ?_ ?_
      | refine LeO.bind ?_ (fun _ => ?_)
theorem pannierref01_Pow.mono : ∀ a0 a1 k, LeO (pannierref01_Pow.f k a0 a1) (pannierref01_Pow.f (k + 1) a0 a1) := by
  intro a0 a1 k
  obtain ⟨ih0, ih1⟩ := pannierref01_Pow.mono_l k
  unfold pannierref01_Pow.f
  repeat' first
      | (with_reducible exact ih0 _ _ _ _ _)
      | (with_reducible exact ih1 _ _ _ _ _ _)
      | (with_reducible exact pannierref01_Mul.mono _ _ _)
      | (with_reducible exact LeO.refl _)
      | (with_reducible exact LeO.none _)
      | (with_reducible refine LeO.ite ?_ ?_)
      | (with_reducible refine LeO.bind ?_ (fun _ => ?_))
      | exact ih0 _ _ _ _ _
      | exact ih1 _ _ _ _ _ _
      | exact pannierref01_Mul.mono _ _ _
      | exact LeO.none _
      | refine LeO.ite ?_ ?_
      | refine LeO.bind ?_ (fun _ => ?_)
set_option maxHeartbeats 8000000 in
set_option maxRecDepth 100000 in
theorem pannierref01_Pow.calls (k : Nat) (a0 : Int) (a1 : Int) (r1 : Int) (r2 : Bool) (w : World) (h : pannierref01_Pow.f k a0 a1 = some (r1, r2)) :
    Calls Tryd.prog 45 #[.int .i64 a0, .int .i64 a1] w fun e w' => e = .returned (.agg #[.int .i64 r1, .bool r2]) ∧ Below w.heap.size w w' := by
  have hu57 := Tryd.underlying57
  have HB := Aside0.mk (Below.refl w.heap.size w)
  have H : (if a1 < 0 then (some (0, false)) else (if a0 = 0 then (if a1 = 0 then (some (1, true)) else (some (0, true))) else (if a0 = 1 then (some (1, true)) else (if a0 = (-1) then (some (wrap64 (1 - (wrap64 ((Int.tmod a1 2) * 2))), true)) else (if a1 > 64 then (some (0, false)) else (pannierref01_Pow.l0 k a0 a1 0 1 true)))))) = some (r1, r2) := h
  clear h
  by_cases c3 : a1 < 0
  · rw [if_pos c3] at H
    have c3b0 : decide (a1 < 0) = true := decide_eq_true c3
    clear c3
    simp only [Option.some.injEq, Prod.mk.injEq] at H
    obtain ⟨rfl, rfl⟩ := H
    go_enter Tryd.func45, Tryd.ntmps45
    go_wp2_with (first | ((with_reducible refine gate_dst (N := 4) rfl ?_); refine box_event ?hg (N := 4) ?hd (cs := #[.int .i64 0, .bool false]) (t := 57) ?hr ?_; (case hd => rfl); (case hg => rfl); (case hr => first | (go_simp; done) | (go_simp; rfl)); intro gb319 hg w4 hbox hb; have n0_ := Aside0.mk (below_step (by repeat (first | (with_reducible first | exact HB.out | apply below_alloc | apply pw_below_drewN | apply below_drew1) | exact HB.out)) hb); have n1_ := Aside0.mk (hbox); have n2_ := Aside0.mk ((by rw [hg]; exact (below_size (by repeat (first | (with_reducible first | exact HB.out | apply below_alloc | apply pw_below_drewN | apply below_drew1) | exact HB.out))) : w.heap.size ≤ gb319)); have n3_ := Aside0.mk ((by rw [hg]; exact (below_size (by repeat (first | (with_reducible first | exact HB.out | apply below_alloc | apply pw_below_drewN | apply below_drew1) | exact HB.out))) : w.heap.size ≤ gb319)); clear HB; have HB := n0_; have BK319 := n1_; have GW319 := n2_; have GE319 := n3_; clear n0_ n1_ n2_ n3_; clear hb hbox hg; have hcz5_0 : w4.cell? ⟨gb319, 0, none⟩ = some (.int .i64 0) := (blk_cell BK319.out 0).trans rfl; have hcz5_1 : w4.cell? ⟨gb319, 1, none⟩ = some (.bool false) := (blk_cell BK319.out 1).trans rfl; have hfz5_0 := blk_frozen BK319.out 0; have hfz5_1 := blk_frozen BK319.out 1))
    refine bodyPost_ret (results_cell_row rfl _ _ gb319 57 #[.int .i64 0, .bool false] (0, 0) _ rfl (by (with_reducible repeat (first | refine blk_drewN ?_ _ | refine blk_drew ?_ | refine blk_alloc ?_ _)); refine blk_put (cs := #[.int .i64 0, .bool false]) ?_ 1 _ rfl; (with_reducible repeat (first | refine blk_drewN ?_ _ | refine blk_drew ?_ | refine blk_alloc ?_ _)); refine blk_put (cs := #[.int .i64 0, .bool false]) ?_ 0 _ rfl; (with_reducible repeat (first | refine blk_drewN ?_ _ | refine blk_drew ?_ | refine blk_alloc ?_ _)); exact BK319.out) Tryd.underlying57 rfl (by kernel_rfl)) rfl ?_
    exact ⟨by first | rfl | (simp [errW_none, errW_some] <;> rfl) | (simp [*, errW_none, errW_some] <;> rfl), by repeat (first | (with_reducible first | exact HB.out | apply below_alloc | apply pw_below_drewN | apply below_drew1 | refine below_set ?_ GE319.out) | exact HB.out)⟩
  · rw [if_neg c3] at H
    have c3b0 : decide (a1 < 0) = false := decide_eq_false c3
    clear c3
    by_cases c6 : a0 = 0
    · rw [if_pos c6] at H
      have c6b0 : (a0 == 0) = true := beq_iff_eq.mpr c6
      have c6b1 : (a0 != 0) = false := bne_eq_false_iff_eq.mpr c6
      clear c6
      by_cases c7 : a1 = 0
      · rw [if_pos c7] at H
        have c7b0 : (a1 == 0) = true := beq_iff_eq.mpr c7
        have c7b1 : (a1 != 0) = false := bne_eq_false_iff_eq.mpr c7
        clear c7
        simp only [Option.some.injEq, Prod.mk.injEq] at H
        obtain ⟨rfl, rfl⟩ := H
        go_enter Tryd.func45, Tryd.ntmps45
        go_wp2_with (first | ((with_reducible refine gate_dst (N := 4) rfl ?_); refine box_event ?hg (N := 4) ?hd (cs := #[.int .i64 0, .bool false]) (t := 57) ?hr ?_; (case hd => rfl); (case hg => rfl); (case hr => first | (go_simp; done) | (go_simp; rfl)); intro gb319 hg w8 hbox hb; have n0_ := Aside0.mk (below_step (by repeat (first | (with_reducible first | exact HB.out | apply below_alloc | apply pw_below_drewN | apply below_drew1) | exact HB.out)) hb); have n1_ := Aside0.mk (hbox); have n2_ := Aside0.mk ((by rw [hg]; exact (below_size (by repeat (first | (with_reducible first | exact HB.out | apply below_alloc | apply pw_below_drewN | apply below_drew1) | exact HB.out))) : w.heap.size ≤ gb319)); have n3_ := Aside0.mk ((by rw [hg]; exact (below_size (by repeat (first | (with_reducible first | exact HB.out | apply below_alloc | apply pw_below_drewN | apply below_drew1) | exact HB.out))) : w.heap.size ≤ gb319)); clear HB; have HB := n0_; have BK319 := n1_; have GW319 := n2_; have GE319 := n3_; clear n0_ n1_ n2_ n3_; clear hb hbox hg; have hcz9_0 : w8.cell? ⟨gb319, 0, none⟩ = some (.int .i64 0) := (blk_cell BK319.out 0).trans rfl; have hcz9_1 : w8.cell? ⟨gb319, 1, none⟩ = some (.bool false) := (blk_cell BK319.out 1).trans rfl; have hfz9_0 := blk_frozen BK319.out 0; have hfz9_1 := blk_frozen BK319.out 1))
        refine bodyPost_ret (results_cell_row rfl _ _ gb319 57 #[.int .i64 1, .bool true] (0, 0) _ rfl (by (with_reducible repeat (first | refine blk_drewN ?_ _ | refine blk_drew ?_ | refine blk_alloc ?_ _)); refine blk_put (cs := #[.int .i64 1, .bool false]) ?_ 1 _ rfl; (with_reducible repeat (first | refine blk_drewN ?_ _ | refine blk_drew ?_ | refine blk_alloc ?_ _)); refine blk_put (cs := #[.int .i64 0, .bool false]) ?_ 0 _ rfl; (with_reducible repeat (first | refine blk_drewN ?_ _ | refine blk_drew ?_ | refine blk_alloc ?_ _)); exact BK319.out) Tryd.underlying57 rfl (by kernel_rfl)) rfl ?_
        exact ⟨by first | rfl | (simp [errW_none, errW_some] <;> rfl) | (simp [*, errW_none, errW_some] <;> rfl), by repeat (first | (with_reducible first | exact HB.out | apply below_alloc | apply pw_below_drewN | apply below_drew1 | refine below_set ?_ GE319.out) | exact HB.out)⟩
      · rw [if_neg c7] at H
        have c7b0 : (a1 == 0) = false := beq_eq_false_iff_ne.mpr c7
        have c7b1 : (a1 != 0) = true := bne_iff_ne.mpr c7
        simp only [Option.some.injEq, Prod.mk.injEq] at H
        obtain ⟨rfl, rfl⟩ := H
        go_enter Tryd.func45, Tryd.ntmps45
        go_wp2_with (first | ((with_reducible refine gate_dst (N := 4) rfl ?_); refine box_event ?hg (N := 4) ?hd (cs := #[.int .i64 0, .bool false]) (t := 57) ?hr ?_; (case hd => rfl); (case hg => rfl); (case hr => first | (go_simp; done) | (go_simp; rfl)); intro gb319 hg w10 hbox hb; have n0_ := Aside0.mk (below_step (by repeat (first | (with_reducible first | exact HB.out | apply below_alloc | apply pw_below_drewN | apply below_drew1) | exact HB.out)) hb); have n1_ := Aside0.mk (hbox); have n2_ := Aside0.mk ((by rw [hg]; exact (below_size (by repeat (first | (with_reducible first | exact HB.out | apply below_alloc | apply pw_below_drewN | apply below_drew1) | exact HB.out))) : w.heap.size ≤ gb319)); have n3_ := Aside0.mk ((by rw [hg]; exact (below_size (by repeat (first | (with_reducible first | exact HB.out | apply below_alloc | apply pw_below_drewN | apply below_drew1) | exact HB.out))) : w.heap.size ≤ gb319)); clear HB; have HB := n0_; have BK319 := n1_; have GW319 := n2_; have GE319 := n3_; clear n0_ n1_ n2_ n3_; clear hb hbox hg; have hcz11_0 : w10.cell? ⟨gb319, 0, none⟩ = some (.int .i64 0) := (blk_cell BK319.out 0).trans rfl; have hcz11_1 : w10.cell? ⟨gb319, 1, none⟩ = some (.bool false) := (blk_cell BK319.out 1).trans rfl; have hfz11_0 := blk_frozen BK319.out 0; have hfz11_1 := blk_frozen BK319.out 1))
        refine bodyPost_ret (results_cell_row rfl _ _ gb319 57 #[.int .i64 0, .bool true] (0, 0) _ rfl (by (with_reducible repeat (first | refine blk_drewN ?_ _ | refine blk_drew ?_ | refine blk_alloc ?_ _)); refine blk_put (cs := #[.int .i64 0, .bool false]) ?_ 1 _ rfl; (with_reducible repeat (first | refine blk_drewN ?_ _ | refine blk_drew ?_ | refine blk_alloc ?_ _)); refine blk_put (cs := #[.int .i64 0, .bool false]) ?_ 0 _ rfl; (with_reducible repeat (first | refine blk_drewN ?_ _ | refine blk_drew ?_ | refine blk_alloc ?_ _)); exact BK319.out) Tryd.underlying57 rfl (by kernel_rfl)) rfl ?_
        exact ⟨by first | rfl | (simp [errW_none, errW_some] <;> rfl) | (simp [*, errW_none, errW_some] <;> rfl), by repeat (first | (with_reducible first | exact HB.out | apply below_alloc | apply pw_below_drewN | apply below_drew1 | refine below_set ?_ GE319.out) | exact HB.out)⟩
    · rw [if_neg c6] at H
      have c6b0 : (a0 == 0) = false := beq_eq_false_iff_ne.mpr c6
      have c6b1 : (a0 != 0) = true := bne_iff_ne.mpr c6
      by_cases c12 : a0 = 1
      · rw [if_pos c12] at H
        have c12b0 : (a0 == 1) = true := beq_iff_eq.mpr c12
        have c12b1 : (a0 != 1) = false := bne_eq_false_iff_eq.mpr c12
        clear c12
        simp only [Option.some.injEq, Prod.mk.injEq] at H
        obtain ⟨rfl, rfl⟩ := H
        go_enter Tryd.func45, Tryd.ntmps45
        go_wp2_with (first | ((with_reducible refine gate_dst (N := 4) rfl ?_); refine box_event ?hg (N := 4) ?hd (cs := #[.int .i64 0, .bool false]) (t := 57) ?hr ?_; (case hd => rfl); (case hg => rfl); (case hr => first | (go_simp; done) | (go_simp; rfl)); intro gb319 hg w13 hbox hb; have n0_ := Aside0.mk (below_step (by repeat (first | (with_reducible first | exact HB.out | apply below_alloc | apply pw_below_drewN | apply below_drew1) | exact HB.out)) hb); have n1_ := Aside0.mk (hbox); have n2_ := Aside0.mk ((by rw [hg]; exact (below_size (by repeat (first | (with_reducible first | exact HB.out | apply below_alloc | apply pw_below_drewN | apply below_drew1) | exact HB.out))) : w.heap.size ≤ gb319)); have n3_ := Aside0.mk ((by rw [hg]; exact (below_size (by repeat (first | (with_reducible first | exact HB.out | apply below_alloc | apply pw_below_drewN | apply below_drew1) | exact HB.out))) : w.heap.size ≤ gb319)); clear HB; have HB := n0_; have BK319 := n1_; have GW319 := n2_; have GE319 := n3_; clear n0_ n1_ n2_ n3_; clear hb hbox hg; have hcz14_0 : w13.cell? ⟨gb319, 0, none⟩ = some (.int .i64 0) := (blk_cell BK319.out 0).trans rfl; have hcz14_1 : w13.cell? ⟨gb319, 1, none⟩ = some (.bool false) := (blk_cell BK319.out 1).trans rfl; have hfz14_0 := blk_frozen BK319.out 0; have hfz14_1 := blk_frozen BK319.out 1))
        refine bodyPost_ret (results_cell_row rfl _ _ gb319 57 #[.int .i64 1, .bool true] (0, 0) _ rfl (by (with_reducible repeat (first | refine blk_drewN ?_ _ | refine blk_drew ?_ | refine blk_alloc ?_ _)); refine blk_put (cs := #[.int .i64 1, .bool false]) ?_ 1 _ rfl; (with_reducible repeat (first | refine blk_drewN ?_ _ | refine blk_drew ?_ | refine blk_alloc ?_ _)); refine blk_put (cs := #[.int .i64 0, .bool false]) ?_ 0 _ rfl; (with_reducible repeat (first | refine blk_drewN ?_ _ | refine blk_drew ?_ | refine blk_alloc ?_ _)); exact BK319.out) Tryd.underlying57 rfl (by kernel_rfl)) rfl ?_
        exact ⟨by first | rfl | (simp [errW_none, errW_some] <;> rfl) | (simp [*, errW_none, errW_some] <;> rfl), by repeat (first | (with_reducible first | exact HB.out | apply below_alloc | apply pw_below_drewN | apply below_drew1 | refine below_set ?_ GE319.out) | exact HB.out)⟩
      · rw [if_neg c12] at H
        have c12b0 : (a0 == 1) = false := beq_eq_false_iff_ne.mpr c12
        have c12b1 : (a0 != 1) = true := bne_iff_ne.mpr c12
        by_cases c15 : a0 = (-1)
        · rw [if_pos c15] at H
          have c15b0 : (a0 == (-1)) = true := beq_iff_eq.mpr c15
          have c15b1 : (a0 != (-1)) = false := bne_eq_false_iff_eq.mpr c15
          clear c15
          simp only [Option.some.injEq, Prod.mk.injEq] at H
          obtain ⟨rfl, rfl⟩ := H
          go_enter Tryd.func45, Tryd.ntmps45
          go_wp2_with (first | ((with_reducible refine gate_dst (N := 4) rfl ?_); refine box_event ?hg (N := 4) ?hd (cs := #[.int .i64 0, .bool false]) (t := 57) ?hr ?_; (case hd => rfl); (case hg => rfl); (case hr => first | (go_simp; done) | (go_simp; rfl)); intro gb319 hg w16 hbox hb; have n0_ := Aside0.mk (below_step (by repeat (first | (with_reducible first | exact HB.out | apply below_alloc | apply pw_below_drewN | apply below_drew1) | exact HB.out)) hb); have n1_ := Aside0.mk (hbox); have n2_ := Aside0.mk ((by rw [hg]; exact (below_size (by repeat (first | (with_reducible first | exact HB.out | apply below_alloc | apply pw_below_drewN | apply below_drew1) | exact HB.out))) : w.heap.size ≤ gb319)); have n3_ := Aside0.mk ((by rw [hg]; exact (below_size (by repeat (first | (with_reducible first | exact HB.out | apply below_alloc | apply pw_below_drewN | apply below_drew1) | exact HB.out))) : w.heap.size ≤ gb319)); clear HB; have HB := n0_; have BK319 := n1_; have GW319 := n2_; have GE319 := n3_; clear n0_ n1_ n2_ n3_; clear hb hbox hg; have hcz17_0 : w16.cell? ⟨gb319, 0, none⟩ = some (.int .i64 0) := (blk_cell BK319.out 0).trans rfl; have hcz17_1 : w16.cell? ⟨gb319, 1, none⟩ = some (.bool false) := (blk_cell BK319.out 1).trans rfl; have hfz17_0 := blk_frozen BK319.out 0; have hfz17_1 := blk_frozen BK319.out 1))
          refine bodyPost_ret (results_cell_row rfl _ _ gb319 57 #[.int .i64 (wrap64 (1 - (wrap64 ((Int.tmod a1 2) * 2)))), .bool true] (0, 0) _ rfl (by (with_reducible repeat (first | refine blk_drewN ?_ _ | refine blk_drew ?_ | refine blk_alloc ?_ _)); refine blk_put (cs := #[.int .i64 (wrap64 (1 - (wrap64 ((Int.tmod a1 2) * 2)))), .bool false]) ?_ 1 _ rfl; (with_reducible repeat (first | refine blk_drewN ?_ _ | refine blk_drew ?_ | refine blk_alloc ?_ _)); refine blk_put (cs := #[.int .i64 0, .bool false]) ?_ 0 _ rfl; (with_reducible repeat (first | refine blk_drewN ?_ _ | refine blk_drew ?_ | refine blk_alloc ?_ _)); exact BK319.out) Tryd.underlying57 rfl (by kernel_rfl)) rfl ?_
          exact ⟨by first | rfl | (simp [errW_none, errW_some] <;> rfl) | (simp [*, errW_none, errW_some] <;> rfl), by repeat (first | (with_reducible first | exact HB.out | apply below_alloc | apply pw_below_drewN | apply below_drew1 | refine below_set ?_ GE319.out) | exact HB.out)⟩
        · rw [if_neg c15] at H
          have c15b0 : (a0 == (-1)) = false := beq_eq_false_iff_ne.mpr c15
          have c15b1 : (a0 != (-1)) = true := bne_iff_ne.mpr c15
          by_cases c18 : a1 > 64
          · rw [if_pos c18] at H
            have c18b0 : decide (64 < a1) = true := decide_eq_true c18
            clear c18
            simp only [Option.some.injEq, Prod.mk.injEq] at H
            obtain ⟨rfl, rfl⟩ := H
            go_enter Tryd.func45, Tryd.ntmps45
            go_wp2_with (first | ((with_reducible refine gate_dst (N := 4) rfl ?_); refine box_event ?hg (N := 4) ?hd (cs := #[.int .i64 0, .bool false]) (t := 57) ?hr ?_; (case hd => rfl); (case hg => rfl); (case hr => first | (go_simp; done) | (go_simp; rfl)); intro gb319 hg w19 hbox hb; have n0_ := Aside0.mk (below_step (by repeat (first | (with_reducible first | exact HB.out | apply below_alloc | apply pw_below_drewN | apply below_drew1) | exact HB.out)) hb); have n1_ := Aside0.mk (hbox); have n2_ := Aside0.mk ((by rw [hg]; exact (below_size (by repeat (first | (with_reducible first | exact HB.out | apply below_alloc | apply pw_below_drewN | apply below_drew1) | exact HB.out))) : w.heap.size ≤ gb319)); have n3_ := Aside0.mk ((by rw [hg]; exact (below_size (by repeat (first | (with_reducible first | exact HB.out | apply below_alloc | apply pw_below_drewN | apply below_drew1) | exact HB.out))) : w.heap.size ≤ gb319)); clear HB; have HB := n0_; have BK319 := n1_; have GW319 := n2_; have GE319 := n3_; clear n0_ n1_ n2_ n3_; clear hb hbox hg; have hcz20_0 : w19.cell? ⟨gb319, 0, none⟩ = some (.int .i64 0) := (blk_cell BK319.out 0).trans rfl; have hcz20_1 : w19.cell? ⟨gb319, 1, none⟩ = some (.bool false) := (blk_cell BK319.out 1).trans rfl; have hfz20_0 := blk_frozen BK319.out 0; have hfz20_1 := blk_frozen BK319.out 1))
            refine bodyPost_ret (results_cell_row rfl _ _ gb319 57 #[.int .i64 0, .bool false] (0, 0) _ rfl (by (with_reducible repeat (first | refine blk_drewN ?_ _ | refine blk_drew ?_ | refine blk_alloc ?_ _)); refine blk_put (cs := #[.int .i64 0, .bool false]) ?_ 1 _ rfl; (with_reducible repeat (first | refine blk_drewN ?_ _ | refine blk_drew ?_ | refine blk_alloc ?_ _)); refine blk_put (cs := #[.int .i64 0, .bool false]) ?_ 0 _ rfl; (with_reducible repeat (first | refine blk_drewN ?_ _ | refine blk_drew ?_ | refine blk_alloc ?_ _)); exact BK319.out) Tryd.underlying57 rfl (by kernel_rfl)) rfl ?_
            exact ⟨by first | rfl | (simp [errW_none, errW_some] <;> rfl) | (simp [*, errW_none, errW_some] <;> rfl), by repeat (first | (with_reducible first | exact HB.out | apply below_alloc | apply pw_below_drewN | apply below_drew1 | refine below_set ?_ GE319.out) | exact HB.out)⟩
          · rw [if_neg c18] at H
            have c18b0 : decide (64 < a1) = false := decide_eq_false c18
            clear c18
            have H' := Aside0.mk H
            clear H
            go_enter Tryd.func45, Tryd.ntmps45
            go_wp2_with (first | ((with_reducible refine gate_dst (N := 4) rfl ?_); refine box_event ?hg (N := 4) ?hd (cs := #[.int .i64 0, .bool false]) (t := 57) ?hr ?_; (case hd => rfl); (case hg => rfl); (case hr => first | (go_simp; done) | (go_simp; rfl)); intro gb319 hg w21 hbox hb; have n0_ := Aside0.mk (below_step (by repeat (first | (with_reducible first | exact HB.out | apply below_alloc | apply pw_below_drewN | apply below_drew1) | exact HB.out)) hb); have n1_ := Aside0.mk (hbox); have n2_ := Aside0.mk ((by rw [hg]; exact (below_size (by repeat (first | (with_reducible first | exact HB.out | apply below_alloc | apply pw_below_drewN | apply below_drew1) | exact HB.out))) : w.heap.size ≤ gb319)); have n3_ := Aside0.mk ((by rw [hg]; exact (below_size (by repeat (first | (with_reducible first | exact HB.out | apply below_alloc | apply pw_below_drewN | apply below_drew1) | exact HB.out))) : w.heap.size ≤ gb319)); clear HB; have HB := n0_; have BK319 := n1_; have GW319 := n2_; have GE319 := n3_; clear n0_ n1_ n2_ n3_; clear hb hbox hg) | ((with_reducible refine gate_dst (N := 5) rfl ?_); refine box_event ?hg (N := 5) ?hd (cs := #[.int .i64 0, .bool false]) (t := 57) ?hr ?_; (case hd => rfl); (case hg => rfl); (case hr => first | (go_simp; done) | (go_simp; rfl)); intro gb320 hg w22 hbox hb; have n0_ := Aside0.mk (blk_below (g := gb319) (o := .cells #[.int .i64 0, .bool false] 57 (0, 0)) (by (with_reducible repeat (first | refine blk_drewN ?_ _ | refine blk_drew ?_ | refine blk_alloc ?_ _)); exact BK319.out) hb); have n1_ := Aside0.mk (below_step (by repeat (first | (with_reducible first | exact HB.out | apply below_alloc | apply pw_below_drewN | apply below_drew1 | refine below_set ?_ GE319.out) | exact HB.out)) hb); have n2_ := Aside0.mk (hbox); have n3_ := Aside0.mk ((by rw [hg]; exact (below_size (by repeat (first | (with_reducible first | exact HB.out | apply below_alloc | apply pw_below_drewN | apply below_drew1 | refine below_set ?_ GE319.out) | exact HB.out))) : w.heap.size ≤ gb320)); have n4_ := Aside0.mk ((by rw [hg]; exact (below_size (by repeat (first | (with_reducible first | exact HB.out | apply below_alloc | apply pw_below_drewN | apply below_drew1 | refine below_set ?_ GE319.out) | exact HB.out))) : w.heap.size ≤ gb320)); have n5_ := Aside0.mk ((by rw [hg]; exact Nat.ne_of_lt (blk_lt (g := gb319) (o := .cells #[.int .i64 0, .bool false] 57 (0, 0)) (by (with_reducible repeat (first | refine blk_drewN ?_ _ | refine blk_drew ?_ | refine blk_alloc ?_ _)); exact BK319.out)) : gb319 ≠ gb320)); have n6_ := Aside0.mk ((by rw [hg]; exact Nat.ne_of_gt (blk_lt (g := gb319) (o := .cells #[.int .i64 0, .bool false] 57 (0, 0)) (by (with_reducible repeat (first | refine blk_drewN ?_ _ | refine blk_drew ?_ | refine blk_alloc ?_ _)); exact BK319.out)) : gb320 ≠ gb319)); clear BK319; clear HB; have BK319 := n0_; have HB := n1_; have BK320 := n2_; have GW320 := n3_; have GE320 := n4_; have NB319_320 := n5_; have NB320_319 := n6_; clear n0_ n1_ n2_ n3_ n4_ n5_ n6_; clear hb hbox hg; have hnb23 := NB320_319.out; have hnc23 := NB319_320.out; have hcz24_0 : w22.cell? ⟨gb320, 0, none⟩ = some (.int .i64 0) := (blk_cell BK320.out 0).trans rfl; have hcz24_1 : w22.cell? ⟨gb320, 1, none⟩ = some (.bool false) := (blk_cell BK320.out 1).trans rfl; have hfz24_0 := blk_frozen BK320.out 0; have hfz24_1 := blk_frozen BK320.out 1))
            go_loopg [6] k (fun kq v6 w' => ∃ (x6_1 : Int) (x320000_1 : Int) (x320001_1 : Bool) (x321000_1 : Int) (x321001_1 : Bool), v6 = .int .i64 x6_1 ∧ Aside0 (pannierref01_Pow.l0 kq a0 a1 x6_1 x321000_1 x321001_1 = some (r1, r2)) ∧ Aside0 (kq ≤ k) ∧ Aside0 (w'.heap[gb319]? = some (.cells #[.int .i64 x320000_1, .bool x320001_1] 57 (0, 0))) ∧ Aside0 (w'.heap[gb320]? = some (.cells #[.int .i64 x321000_1, .bool x321001_1] 57 (0, 0))) ∧ Aside0 (Below w.heap.size w w'))
            case atStart => exact ⟨(0), (0), (false), (1), (true), (by first | rfl | (simp; done) | (simp [*]; done)), H', ⟨Nat.le_refl _⟩, ⟨by (with_reducible repeat (first | refine blk_drewN ?_ _ | refine blk_drew ?_ | refine blk_alloc ?_ _)); refine blk_far ?_ NB319_320.out _; (with_reducible repeat (first | refine blk_drewN ?_ _ | refine blk_drew ?_ | refine blk_alloc ?_ _)); refine blk_far ?_ NB319_320.out _; (with_reducible repeat (first | refine blk_drewN ?_ _ | refine blk_drew ?_ | refine blk_alloc ?_ _)); exact BK319.out⟩, ⟨by (with_reducible repeat (first | refine blk_drewN ?_ _ | refine blk_drew ?_ | refine blk_alloc ?_ _)); refine blk_put (cs := #[.int .i64 1, .bool false]) ?_ 1 _ rfl; (with_reducible repeat (first | refine blk_drewN ?_ _ | refine blk_drew ?_ | refine blk_alloc ?_ _)); refine blk_put (cs := #[.int .i64 0, .bool false]) ?_ 0 _ rfl; (with_reducible repeat (first | refine blk_drewN ?_ _ | refine blk_drew ?_ | refine blk_alloc ?_ _)); exact BK320.out⟩, ⟨by repeat (first | (with_reducible first | exact HB.out | apply below_alloc | apply pw_below_drewN | apply below_drew1 | refine below_set ?_ GE319.out | refine below_set ?_ GE320.out) | exact HB.out)⟩⟩
            case round =>
              clear H'
              try clear c1
              try clear c2
              try clear p2
              try clear c3
              try clear c3b0
              try clear c4
              try clear c6
              try clear c6b0
              try clear c6b1
              try clear p6
              try clear c7
              try clear c7b0
              try clear c7b1
              try clear c12
              try clear c12b0
              try clear c12b1
              try clear c15
              try clear c15b0
              try clear c15b1
              try clear c18
              try clear c18b0
              try clear c23
              try clear hcz11_0
              try clear hcz11_1
              try clear hcz14_0
              try clear hcz14_1
              try clear hcz17_0
              try clear hcz17_1
              try clear hcz20_0
              try clear hcz20_1
              try clear hcz24_0
              try clear hcz24_1
              try clear hcz5_0
              try clear hcz5_1
              try clear hcz9_0
              try clear hcz9_1
              try clear hfz11_0
              try clear hfz11_1
              try clear hfz14_0
              try clear hfz14_1
              try clear hfz17_0
              try clear hfz17_1
              try clear hfz20_0
              try clear hfz20_1
              try clear hfz24_0
              try clear hfz24_1
              try clear hfz5_0
              try clear hfz5_1
              try clear hfz9_0
              try clear hfz9_1
              obtain ⟨x6_1, x320000_1, x320001_1, x321000_1, x321001_1, rfl, HA, HK1, BK319, BK320, HB⟩ := hrel
              cases gk with
              | zero => exact absurd HA.out (by simp [pannierref01_Pow.l0])
              | succ k1 =>
                have H := HA.out
                clear HA
                simp only [pannierref01_Pow.l0] at H
                have HC25 := Aside0.mk H
                clear H
                go_upto_region 16 with (fail)
                go_cut [37] (fun v37 wc => ∃ (kq : Nat) (x37_24 : Bool), v37 = .bool x37_24 ∧ Aside0 (pannierref01_Pow.j1 kq a0 a1 x6_1 x37_24 x321000_1 x321001_1 = some (r1, r2)) ∧ Aside0 (kq ≤ k1) ∧ Aside0 (wc.heap[gb319]? = some (.cells #[.int .i64 x320000_1, .bool x320001_1] 57 (0, 0))) ∧ Aside0 (wc.heap[gb320]? = some (.cells #[.int .i64 x321000_1, .bool x321001_1] 57 (0, 0))) ∧ Aside0 (Below w.heap.size w wc))
                case first =>
                  have H := HC25.out
                  clear HC25
                  by_cases c26 : x6_1 < a1
                  · rw [if_pos c26] at H
                    have c26b0 : decide (x6_1 < a1) = true := decide_eq_true c26
                    clear c26
                    (first | rw [c26b0] | (simp only [i64_w, i32_w]; rw [c26b0]) | skip)
                    have H' := Aside0.mk H
                    clear H
                    go_wp2
                    go_meet
                    case rel => exact ⟨_, (decide (x6_1 < 65)), (by first | rfl | (simp; done) | (simp [*]; done)), H', ⟨by have := HK1.out; first | omega | exact Nat.le_refl _⟩, ⟨by (with_reducible repeat (first | refine blk_drewN ?_ _ | refine blk_drew ?_ | refine blk_alloc ?_ _)); exact BK319.out⟩, ⟨by (with_reducible repeat (first | refine blk_drewN ?_ _ | refine blk_drew ?_ | refine blk_alloc ?_ _)); exact BK320.out⟩, ⟨by repeat (first | (with_reducible first | exact HB.out | apply below_alloc | apply pw_below_drewN | apply below_drew1 | refine below_set ?_ GE319.out | refine below_set ?_ GE320.out) | exact HB.out)⟩⟩
                  · rw [if_neg c26] at H
                    have c26b0 : decide (x6_1 < a1) = false := decide_eq_false c26
                    clear c26
                    (first | rw [c26b0] | (simp only [i64_w, i32_w]; rw [c26b0]) | skip)
                    have H' := Aside0.mk H
                    clear H
                    go_wp2
                    go_meet
                    case rel => exact ⟨_, (false), (by first | rfl | (simp; done) | (simp [*]; done)), H', ⟨by have := HK1.out; first | omega | exact Nat.le_refl _⟩, ⟨by (with_reducible repeat (first | refine blk_drewN ?_ _ | refine blk_drew ?_ | refine blk_alloc ?_ _)); exact BK319.out⟩, ⟨by (with_reducible repeat (first | refine blk_drewN ?_ _ | refine blk_drew ?_ | refine blk_alloc ?_ _)); exact BK320.out⟩, ⟨by repeat (first | (with_reducible first | exact HB.out | apply below_alloc | apply pw_below_drewN | apply below_drew1 | refine below_set ?_ GE319.out | refine below_set ?_ GE320.out) | exact HB.out)⟩⟩
                case rest =>
                  clear HC25
                  try clear c1
                  try clear c2
                  try clear p2
                  try clear c3
                  try clear c3b0
                  try clear c4
                  try clear c6
                  try clear c6b0
                  try clear c6b1
                  try clear p6
                  try clear c7
                  try clear c7b0
                  try clear c7b1
                  try clear c12
                  try clear c12b0
                  try clear c12b1
                  try clear c15
                  try clear c15b0
                  try clear c15b1
                  try clear c18
                  try clear c18b0
                  try clear c23
                  try clear c26
                  try clear c26b0
                  try clear hcz11_0
                  try clear hcz11_1
                  try clear hcz14_0
                  try clear hcz14_1
                  try clear hcz17_0
                  try clear hcz17_1
                  try clear hcz20_0
                  try clear hcz20_1
                  try clear hcz24_0
                  try clear hcz24_1
                  try clear hcz5_0
                  try clear hcz5_1
                  try clear hcz9_0
                  try clear hcz9_1
                  try clear hfz11_0
                  try clear hfz11_1
                  try clear hfz14_0
                  try clear hfz14_1
                  try clear hfz17_0
                  try clear hfz17_1
                  try clear hfz20_0
                  try clear hfz20_1
                  try clear hfz24_0
                  try clear hfz24_1
                  try clear hfz5_0
                  try clear hfz5_1
                  try clear hfz9_0
                  try clear hfz9_1
                  try clear p2
                  try clear p6
                  obtain ⟨kq, x37_24, rfl, HA, HJ24, BK319, BK320, HB⟩ := hcut
                  cases kq with
                  | zero => exact absurd HA.out (by simp [pannierref01_Pow.j1])
                  | succ kj24 =>
                    have H := HA.out
                    clear HA
                    simp only [pannierref01_Pow.j1] at H
                    by_cases c27 : x37_24 = true
                    · subst c27
                      have H1 : ((pannierref01_Mul.f kj24 x321000_1 a0).bind fun bt321 => (if bt321.2 = true then (pannierref01_Pow.l0 kj24 a0 a1 (wrap64 (x6_1 + 1)) bt321.1 bt321.2) else (some (0, false)))) = some (r1, r2) := by rw [if_pos rfl] at H; exact H
                      clear H
                      have H := H1
                      clear H1
                      replace H := Option.bind_eq_some_iff.mp H
                      obtain ⟨⟨t321, t322⟩, A280, H⟩ := H
                      replace H : (if t322 = true then (pannierref01_Pow.l0 kj24 a0 a1 (wrap64 (x6_1 + 1)) t321 t322) else (some (0, false))) = some (r1, r2) := H
                      have A28 := Aside0.mk A280
                      clear A280
                      by_cases c29 : t322 = true
                      · subst c29
                        have H1 : (pannierref01_Pow.l0 kj24 a0 a1 (wrap64 (x6_1 + 1)) t321 true) = some (r1, r2) := by rw [if_pos rfl] at H; exact H
                        clear H
                        have H := H1
                        clear H1
                        have H' := Aside0.mk H
                        clear H
                        have hnb30 := NB320_319.out
                        have hnc30 := NB319_320.out
                        have hcz31_0 : wc.cell? ⟨gb320, 0, none⟩ = some (.int .i64 x321000_1) := (blk_cell BK320.out 0).trans rfl
                        have hcz31_1 : wc.cell? ⟨gb320, 1, none⟩ = some (.bool x321001_1) := (blk_cell BK320.out 1).trans rfl
                        have hfz31_0 := blk_frozen BK320.out 0
                        have hfz31_1 := blk_frozen BK320.out 1
                        go_wp2_with (first | ((with_reducible refine gate_callee (f := 52) rfl ?_); refine goesL_ (some 43) rfl rfl Tryd.func52 (by kernel_rfl) rfl #[.int .i64 x321000_1, .int .i64 a0] rfl (by (try simp only [List.map_toArray, List.map_cons, List.map_nil]); first | done | rfl | (simp only [List.length_drop, List.length_take]; rfl)) ?_; (with_reducible refine (pannierref01_Mul.calls kj24 x321000_1 a0 t321 true _ A28.out).mono ?_); rintro e w32 ⟨rfl, hb⟩; refine ⟨_, rfl, ?_⟩; have n0_ := Aside0.mk (blk_below (g := gb319) (o := .cells #[.int .i64 x320000_1, .bool x320001_1] 57 (0, 0)) (by (with_reducible repeat (first | refine blk_drewN ?_ _ | refine blk_drew ?_ | refine blk_alloc ?_ _)); exact BK319.out) hb); have n1_ := Aside0.mk (blk_below (g := gb320) (o := .cells #[.int .i64 x321000_1, .bool x321001_1] 57 (0, 0)) (by (with_reducible repeat (first | refine blk_drewN ?_ _ | refine blk_drew ?_ | refine blk_alloc ?_ _)); exact BK320.out) hb); have n2_ := Aside0.mk (below_step (by repeat (first | (with_reducible first | exact HB.out | apply below_alloc | apply pw_below_drewN | apply below_drew1 | refine below_set ?_ GE319.out | refine below_set ?_ GE320.out) | exact HB.out)) hb); clear BK319; clear BK320; clear HB; have BK319 := n0_; have BK320 := n1_; have HB := n2_; clear n0_ n1_ n2_; (try clear hb); (try clear hb2); (try clear hk); (try clear hi); have hcz33_0 : w32.cell? ⟨gb320, 0, none⟩ = some (.int .i64 x321000_1) := (blk_cell BK320.out 0).trans rfl; have hcz33_1 : w32.cell? ⟨gb320, 1, none⟩ = some (.bool x321001_1) := (blk_cell BK320.out 1).trans rfl; have hfz33_0 := blk_frozen BK320.out 0; have hfz33_1 := blk_frozen BK320.out 1))
                        go_roundg kj24
                        case measure => have := HK1.out; have := HJ24.out; omega
                        case rel => exact ⟨(wrap64 (x6_1 + 1)), (x320000_1), (x320001_1), (t321), (true), (by first | rfl | (simp; done) | (simp [*]; done)), H', ⟨by have := HK1.out; have := HJ24.out; omega⟩, ⟨by (with_reducible repeat (first | refine blk_drewN ?_ _ | refine blk_drew ?_ | refine blk_alloc ?_ _)); refine blk_far ?_ NB319_320.out _; (with_reducible repeat (first | refine blk_drewN ?_ _ | refine blk_drew ?_ | refine blk_alloc ?_ _)); refine blk_far ?_ NB319_320.out _; (with_reducible repeat (first | refine blk_drewN ?_ _ | refine blk_drew ?_ | refine blk_alloc ?_ _)); exact BK319.out⟩, ⟨by (with_reducible repeat (first | refine blk_drewN ?_ _ | refine blk_drew ?_ | refine blk_alloc ?_ _)); refine blk_put (cs := #[.int .i64 t321, .bool x321001_1]) ?_ 1 _ rfl; (with_reducible repeat (first | refine blk_drewN ?_ _ | refine blk_drew ?_ | refine blk_alloc ?_ _)); refine blk_put (cs := #[.int .i64 x321000_1, .bool x321001_1]) ?_ 0 _ rfl; (with_reducible repeat (first | refine blk_drewN ?_ _ | refine blk_drew ?_ | refine blk_alloc ?_ _)); exact BK320.out⟩, ⟨by repeat (first | (with_reducible first | exact HB.out | apply below_alloc | apply pw_below_drewN | apply below_drew1 | refine below_set ?_ GE319.out | refine below_set ?_ GE320.out) | exact HB.out)⟩⟩
                      · replace c29 := Bool.eq_false_iff.mpr c29
                        subst c29
                        have H1 : (some (0, false)) = some (r1, r2) := by rw [if_neg (show ¬ (false = true) by decide)] at H; exact H
                        clear H
                        have H := H1
                        clear H1
                        simp only [Option.some.injEq, Prod.mk.injEq] at H
                        obtain ⟨rfl, rfl⟩ := H
                        have hnb34 := NB320_319.out
                        have hnc34 := NB319_320.out
                        have hcz35_0 : wc.cell? ⟨gb320, 0, none⟩ = some (.int .i64 x321000_1) := (blk_cell BK320.out 0).trans rfl
                        have hcz35_1 : wc.cell? ⟨gb320, 1, none⟩ = some (.bool x321001_1) := (blk_cell BK320.out 1).trans rfl
                        have hfz35_0 := blk_frozen BK320.out 0
                        have hfz35_1 := blk_frozen BK320.out 1
                        go_wp2_with (first | ((with_reducible refine gate_callee (f := 52) rfl ?_); refine goesL_ (some 43) rfl rfl Tryd.func52 (by kernel_rfl) rfl #[.int .i64 x321000_1, .int .i64 a0] rfl (by (try simp only [List.map_toArray, List.map_cons, List.map_nil]); first | done | rfl | (simp only [List.length_drop, List.length_take]; rfl)) ?_; (with_reducible refine (pannierref01_Mul.calls kj24 x321000_1 a0 t321 false _ A28.out).mono ?_); rintro e w36 ⟨rfl, hb⟩; refine ⟨_, rfl, ?_⟩; have n0_ := Aside0.mk (blk_below (g := gb319) (o := .cells #[.int .i64 x320000_1, .bool x320001_1] 57 (0, 0)) (by (with_reducible repeat (first | refine blk_drewN ?_ _ | refine blk_drew ?_ | refine blk_alloc ?_ _)); exact BK319.out) hb); have n1_ := Aside0.mk (blk_below (g := gb320) (o := .cells #[.int .i64 x321000_1, .bool x321001_1] 57 (0, 0)) (by (with_reducible repeat (first | refine blk_drewN ?_ _ | refine blk_drew ?_ | refine blk_alloc ?_ _)); exact BK320.out) hb); have n2_ := Aside0.mk (below_step (by repeat (first | (with_reducible first | exact HB.out | apply below_alloc | apply pw_below_drewN | apply below_drew1 | refine below_set ?_ GE319.out | refine below_set ?_ GE320.out) | exact HB.out)) hb); clear BK319; clear BK320; clear HB; have BK319 := n0_; have BK320 := n1_; have HB := n2_; clear n0_ n1_ n2_; (try clear hb); (try clear hb2); (try clear hk); (try clear hi); have hcz37_0 : w36.cell? ⟨gb320, 0, none⟩ = some (.int .i64 x321000_1) := (blk_cell BK320.out 0).trans rfl; have hcz37_1 : w36.cell? ⟨gb320, 1, none⟩ = some (.bool x321001_1) := (blk_cell BK320.out 1).trans rfl; have hfz37_0 := blk_frozen BK320.out 0; have hfz37_1 := blk_frozen BK320.out 1; have hcz38_0 : w36.cell? ⟨gb319, 0, none⟩ = some (.int .i64 x320000_1) := (blk_cell BK319.out 0).trans rfl; have hcz38_1 : w36.cell? ⟨gb319, 1, none⟩ = some (.bool x320001_1) := (blk_cell BK319.out 1).trans rfl; have hfz38_0 := blk_frozen BK319.out 0; have hfz38_1 := blk_frozen BK319.out 1))
                        refine bodyPost_ret (results_cell_row rfl _ _ gb319 57 #[.int .i64 0, .bool false] (0, 0) _ rfl (by (with_reducible repeat (first | refine blk_drewN ?_ _ | refine blk_drew ?_ | refine blk_alloc ?_ _)); refine blk_put (cs := #[.int .i64 0, .bool x320001_1]) ?_ 1 _ rfl; (with_reducible repeat (first | refine blk_drewN ?_ _ | refine blk_drew ?_ | refine blk_alloc ?_ _)); refine blk_put (cs := #[.int .i64 x320000_1, .bool x320001_1]) ?_ 0 _ rfl; (with_reducible repeat (first | refine blk_drewN ?_ _ | refine blk_drew ?_ | refine blk_alloc ?_ _)); refine blk_far ?_ NB319_320.out _; (with_reducible repeat (first | refine blk_drewN ?_ _ | refine blk_drew ?_ | refine blk_alloc ?_ _)); refine blk_far ?_ NB319_320.out _; (with_reducible repeat (first | refine blk_drewN ?_ _ | refine blk_drew ?_ | refine blk_alloc ?_ _)); exact BK319.out) Tryd.underlying57 rfl (by kernel_rfl)) rfl ?_
                        exact ⟨by first | rfl | (simp [errW_none, errW_some] <;> rfl) | (simp [*, errW_none, errW_some] <;> rfl), by repeat (first | (with_reducible first | exact HB.out | apply below_alloc | apply pw_below_drewN | apply below_drew1 | refine below_set ?_ GE319.out | refine below_set ?_ GE320.out) | exact HB.out)⟩
                    · replace c27 := Bool.eq_false_iff.mpr c27
                      subst c27
                      have H1 : (some (x321000_1, x321001_1)) = some (r1, r2) := by rw [if_neg (show ¬ (false = true) by decide)] at H; exact H
                      clear H
                      have H := H1
                      clear H1
                      simp only [Option.some.injEq, Prod.mk.injEq] at H
                      obtain ⟨rfl, rfl⟩ := H
                      have hnb39 := NB320_319.out
                      have hnc39 := NB319_320.out
                      have hcz40_0 : wc.cell? ⟨gb320, 0, none⟩ = some (.int .i64 x321000_1) := (blk_cell BK320.out 0).trans rfl
                      have hcz40_1 : wc.cell? ⟨gb320, 1, none⟩ = some (.bool x321001_1) := (blk_cell BK320.out 1).trans rfl
                      have hfz40_0 := blk_frozen BK320.out 0
                      have hfz40_1 := blk_frozen BK320.out 1
                      have hcz41_0 : wc.cell? ⟨gb319, 0, none⟩ = some (.int .i64 x320000_1) := (blk_cell BK319.out 0).trans rfl
                      have hcz41_1 : wc.cell? ⟨gb319, 1, none⟩ = some (.bool x320001_1) := (blk_cell BK319.out 1).trans rfl
                      have hfz41_0 := blk_frozen BK319.out 0
                      have hfz41_1 := blk_frozen BK319.out 1
                      go_wp2
                      refine bodyPost_ret (results_cell_row rfl _ _ gb319 57 #[.int .i64 x321000_1, .bool x321001_1] (0, 0) _ rfl (by (with_reducible repeat (first | refine blk_drewN ?_ _ | refine blk_drew ?_ | refine blk_alloc ?_ _)); refine blk_put (cs := #[.int .i64 x321000_1, .bool x320001_1]) ?_ 1 _ rfl; (with_reducible repeat (first | refine blk_drewN ?_ _ | refine blk_drew ?_ | refine blk_alloc ?_ _)); refine blk_put (cs := #[.int .i64 x320000_1, .bool x320001_1]) ?_ 0 _ rfl; (with_reducible repeat (first | refine blk_drewN ?_ _ | refine blk_drew ?_ | refine blk_alloc ?_ _)); exact BK319.out) Tryd.underlying57 rfl (by kernel_rfl)) rfl ?_
                      exact ⟨by first | rfl | (simp [errW_none, errW_some] <;> rfl) | (simp [*, errW_none, errW_some] <;> rfl), by repeat (first | (with_reducible first | exact HB.out | apply below_alloc | apply pw_below_drewN | apply below_drew1 | refine below_set ?_ GE319.out | refine below_set ?_ GE320.out) | exact HB.out)⟩

end Go.Proofs.YtohfidjbnmlfeaaDoor.P

namespace Go.Proofs.YtohfidjbnmlfeaaDoor.P
open Go.RowKit Go.Proofs.YtohfidjbnmlfeaaDoorW.PrintWords Go.Proofs.YtohfidjbnmlfeaaDoorW.PrintLast Go.Proofs.YtohfidjbnmlfeaaDoorW.PrintMore
attribute [local go_sem] max2_int min2_int max_two min_two max_three min_three max_four min_four   -- for this text's walks alone
set_option linter.unusedVariables false
set_option linter.unusedSimpArgs false

/-! ### pannierref01_Gcd: function 46 -/
def pannierref01_Gcd.l0 : Nat → Int → Int → Int → Option (Int × Bool)
  | 0, _, _, _ => none
  | k + 1, x5, x6, x7 => if x7 < 200 then (if x6 > 0 then (if x6 = 0 then (none) else (pannierref01_Gcd.l0 k x6 (Int.tmod x5 x6) (wrap64 (x7 + 1)))) else ((pannierref01_signed.f k x5 false).bind fun bt326 => (some (bt326.1, bt326.2)))) else ((pannierref01_signed.f k x5 false).bind fun bt328 => (some (bt328.1, bt328.2)))
def pannierref01_Gcd.f (k : Nat) (a0 : Int) (a1 : Int) : Option (Int × Bool) := (pannierref01_whole.f a0).bind fun t324 => ((pannierref01_whole.f a1).bind fun t325 => (pannierref01_Gcd.l0 k t324 t325 0))
theorem pannierref01_Gcd.mono_l : ∀ k, (∀ y0 y1 y2, LeO (pannierref01_Gcd.l0 k y0 y1 y2) (pannierref01_Gcd.l0 (k + 1) y0 y1 y2))
  | 0 => fun _ _ _ r h => by simp [pannierref01_Gcd.l0] at h
  | k + 1 => by
    have ih0 := pannierref01_Gcd.mono_l k
    · intro y0 y1 y2
      unfold pannierref01_Gcd.l0
      repeat' first
      | (with_reducible exact ih0 _ _ _)
      | (with_reducible exact pannierref01_signed.mono _ _ _)
      | (with_reducible exact LeO.refl _)
      | (with_reducible exact LeO.none _)
      | (with_reducible refine LeO.ite ?_ ?_)
      | (with_reducible refine LeO.bind ?_ (fun _ => ?_))
      | exact ih0 _ _ _
      | exact pannierref01_signed.mono _ _ _
      | exact LeO.none _
      | refine LeO.ite ?_ ?_
      | refine LeO.bind ?_ (fun _ => ?_)
theorem pannierref01_Gcd.mono : ∀ a0 a1 k, LeO (pannierref01_Gcd.f k a0 a1) (pannierref01_Gcd.f (k + 1) a0 a1) := by
  intro a0 a1 k
  have ih0 := pannierref01_Gcd.mono_l k
  unfold pannierref01_Gcd.f
  repeat' first
      | (with_reducible exact ih0 _ _ _)
      | (with_reducible exact pannierref01_signed.mono _ _ _)
      | (with_reducible exact LeO.refl _)
      | (with_reducible exact LeO.none _)
      | (with_reducible refine LeO.ite ?_ ?_)
      | (with_reducible refine LeO.bind ?_ (fun _ => ?_))
      | exact ih0 _ _ _
      | exact pannierref01_signed.mono _ _ _
      | exact LeO.none _
      | refine LeO.ite ?_ ?_
      | refine LeO.bind ?_ (fun _ => ?_)
set_option maxHeartbeats 8000000 in
set_option maxRecDepth 100000 in
theorem pannierref01_Gcd.calls (k : Nat) (a0 : Int) (a1 : Int) (r1 : Int) (r2 : Bool) (w : World) (h : pannierref01_Gcd.f k a0 a1 = some (r1, r2)) :
    Calls Tryd.prog 46 #[.int .i64 a0, .int .i64 a1] w fun e w' => e = .returned (.agg #[.int .i64 r1, .bool r2]) ∧ Below w.heap.size w w' := by
  have hu57 := Tryd.underlying57
  have HB := Aside0.mk (Below.refl w.heap.size w)
  have H : ((pannierref01_whole.f a0).bind fun t324 => ((pannierref01_whole.f a1).bind fun t325 => (pannierref01_Gcd.l0 k t324 t325 0))) = some (r1, r2) := h
  clear h
  replace H := Option.bind_eq_some_iff.mp H
  obtain ⟨t324, A30, H⟩ := H
  replace H : ((pannierref01_whole.f a1).bind fun t325 => (pannierref01_Gcd.l0 k t324 t325 0)) = some (r1, r2) := H
  have A3 := Aside0.mk A30
  clear A30
  replace H := Option.bind_eq_some_iff.mp H
  obtain ⟨t325, A40, H⟩ := H
  replace H : (pannierref01_Gcd.l0 k t324 t325 0) = some (r1, r2) := H
  have A4 := Aside0.mk A40
  clear A40
  have H' := Aside0.mk H
  clear H
  go_enter Tryd.func46, Tryd.ntmps46
  go_wp2_with (first | ((with_reducible refine gate_dst (N := 4) rfl ?_); refine box_event ?hg (N := 4) ?hd (cs := #[.int .i64 0, .bool false]) (t := 57) ?hr ?_; (case hd => rfl); (case hg => rfl); (case hr => first | (go_simp; done) | (go_simp; rfl)); intro gb323 hg w5 hbox hb; have n0_ := Aside0.mk (below_step (by repeat (first | (with_reducible first | exact HB.out | apply below_alloc | apply pw_below_drewN | apply below_drew1) | exact HB.out)) hb); have n1_ := Aside0.mk (hbox); have n2_ := Aside0.mk ((by rw [hg]; exact (below_size (by repeat (first | (with_reducible first | exact HB.out | apply below_alloc | apply pw_below_drewN | apply below_drew1) | exact HB.out))) : w.heap.size ≤ gb323)); have n3_ := Aside0.mk ((by rw [hg]; exact (below_size (by repeat (first | (with_reducible first | exact HB.out | apply below_alloc | apply pw_below_drewN | apply below_drew1) | exact HB.out))) : w.heap.size ≤ gb323)); clear HB; have HB := n0_; have BK323 := n1_; have GW323 := n2_; have GE323 := n3_; clear n0_ n1_ n2_ n3_; clear hb hbox hg) | (go_at_call 61; (with_reducible refine (pannierref01_whole.calls a0 t324 _ A3.out).mono ?_); rintro e w' ⟨rfl, ⟨nd, rfl⟩⟩; (try first | exact ⟨rfl, _, World.drewN_drewN _ _ _⟩ | exact ⟨rfl, _, Eq.trans (World.drewN_drewN _ _ _) (congrArg (World.drewN _) (Nat.add_assoc _ _ _))⟩)) | (go_at_call 61; (with_reducible refine (pannierref01_whole.calls a1 t325 _ A4.out).mono ?_); rintro e w' ⟨rfl, ⟨nd, rfl⟩⟩; (try first | exact ⟨rfl, _, World.drewN_drewN _ _ _⟩ | exact ⟨rfl, _, Eq.trans (World.drewN_drewN _ _ _) (congrArg (World.drewN _) (Nat.add_assoc _ _ _))⟩)))
  repeat (go_quiet (first | ((with_reducible refine gate_dst (N := 4) rfl ?_); refine box_event ?hg (N := 4) ?hd (cs := #[.int .i64 0, .bool false]) (t := 57) ?hr ?_; (case hd => rfl); (case hg => rfl); (case hr => first | (go_simp; done) | (go_simp; rfl)); intro gb323 hg w5 hbox hb; have n0_ := Aside0.mk (below_step (by repeat (first | (with_reducible first | exact HB.out | apply below_alloc | apply pw_below_drewN | apply below_drew1) | exact HB.out)) hb); have n1_ := Aside0.mk (hbox); have n2_ := Aside0.mk ((by rw [hg]; exact (below_size (by repeat (first | (with_reducible first | exact HB.out | apply below_alloc | apply pw_below_drewN | apply below_drew1) | exact HB.out))) : w.heap.size ≤ gb323)); have n3_ := Aside0.mk ((by rw [hg]; exact (below_size (by repeat (first | (with_reducible first | exact HB.out | apply below_alloc | apply pw_below_drewN | apply below_drew1) | exact HB.out))) : w.heap.size ≤ gb323)); clear HB; have HB := n0_; have BK323 := n1_; have GW323 := n2_; have GE323 := n3_; clear n0_ n1_ n2_ n3_; clear hb hbox hg) | (go_at_call 61; (with_reducible refine (pannierref01_whole.calls a0 t324 _ A3.out).mono ?_); rintro e w' ⟨rfl, ⟨nd, rfl⟩⟩; (try first | exact ⟨rfl, _, World.drewN_drewN _ _ _⟩ | exact ⟨rfl, _, Eq.trans (World.drewN_drewN _ _ _) (congrArg (World.drewN _) (Nat.add_assoc _ _ _))⟩)) | (go_at_call 61; (with_reducible refine (pannierref01_whole.calls a1 t325 _ A4.out).mono ?_); rintro e w' ⟨rfl, ⟨nd, rfl⟩⟩; (try first | exact ⟨rfl, _, World.drewN_drewN _ _ _⟩ | exact ⟨rfl, _, Eq.trans (World.drewN_drewN _ _ _) (congrArg (World.drewN _) (Nat.add_assoc _ _ _))⟩))); try go_wp2_with (first | ((with_reducible refine gate_dst (N := 4) rfl ?_); refine box_event ?hg (N := 4) ?hd (cs := #[.int .i64 0, .bool false]) (t := 57) ?hr ?_; (case hd => rfl); (case hg => rfl); (case hr => first | (go_simp; done) | (go_simp; rfl)); intro gb323 hg w5 hbox hb; have n0_ := Aside0.mk (below_step (by repeat (first | (with_reducible first | exact HB.out | apply below_alloc | apply pw_below_drewN | apply below_drew1) | exact HB.out)) hb); have n1_ := Aside0.mk (hbox); have n2_ := Aside0.mk ((by rw [hg]; exact (below_size (by repeat (first | (with_reducible first | exact HB.out | apply below_alloc | apply pw_below_drewN | apply below_drew1) | exact HB.out))) : w.heap.size ≤ gb323)); have n3_ := Aside0.mk ((by rw [hg]; exact (below_size (by repeat (first | (with_reducible first | exact HB.out | apply below_alloc | apply pw_below_drewN | apply below_drew1) | exact HB.out))) : w.heap.size ≤ gb323)); clear HB; have HB := n0_; have BK323 := n1_; have GW323 := n2_; have GE323 := n3_; clear n0_ n1_ n2_ n3_; clear hb hbox hg) | (go_at_call 61; (with_reducible refine (pannierref01_whole.calls a0 t324 _ A3.out).mono ?_); rintro e w' ⟨rfl, ⟨nd, rfl⟩⟩; (try first | exact ⟨rfl, _, World.drewN_drewN _ _ _⟩ | exact ⟨rfl, _, Eq.trans (World.drewN_drewN _ _ _) (congrArg (World.drewN _) (Nat.add_assoc _ _ _))⟩)) | (go_at_call 61; (with_reducible refine (pannierref01_whole.calls a1 t325 _ A4.out).mono ?_); rintro e w' ⟨rfl, ⟨nd, rfl⟩⟩; (try first | exact ⟨rfl, _, World.drewN_drewN _ _ _⟩ | exact ⟨rfl, _, Eq.trans (World.drewN_drewN _ _ _) (congrArg (World.drewN _) (Nat.add_assoc _ _ _))⟩))))
  go_loopg [5, 6, 7] k (fun kq v5 v6 v7 w' => ∃ (x5_1 : Int) (x6_1 : Int) (x7_1 : Int), v5 = .int .u64 x5_1 ∧ v6 = .int .u64 x6_1 ∧ v7 = .int .i64 x7_1 ∧ Aside0 (pannierref01_Gcd.l0 kq x5_1 x6_1 x7_1 = some (r1, r2)) ∧ Aside0 (kq ≤ k) ∧ Aside0 (w'.heap[gb323]? = some (.cells #[.int .i64 0, .bool false] 57 (0, 0))) ∧ Aside0 (Below w.heap.size w w'))
  case atStart => exact ⟨(t324), (t325), (0), (by first | rfl | (simp; done) | (simp [*]; done)), (by first | rfl | (simp; done) | (simp [*]; done)), (by first | rfl | (simp; done) | (simp [*]; done)), H', ⟨Nat.le_refl _⟩, ⟨by (with_reducible repeat (first | refine blk_drewN ?_ _ | refine blk_drew ?_ | refine blk_alloc ?_ _)); exact BK323.out⟩, ⟨by repeat (first | (with_reducible first | exact HB.out | apply below_alloc | apply pw_below_drewN | apply below_drew1 | refine below_set ?_ GE323.out) | exact HB.out)⟩⟩
  case round =>
    clear H'
    try clear p2
    try clear c4
    obtain ⟨x5_1, x6_1, x7_1, rfl, rfl, rfl, HA, HK1, BK323, HB⟩ := hrel
    cases gk with
    | zero => exact absurd HA.out (by simp [pannierref01_Gcd.l0])
    | succ k1 =>
      have H := HA.out
      clear HA
      simp only [pannierref01_Gcd.l0] at H
      by_cases c6 : x7_1 < 200
      · rw [if_pos c6] at H
        have c6b0 : decide (x7_1 < 200) = true := decide_eq_true c6
        clear c6
        by_cases c7 : x6_1 > 0
        · rw [if_pos c7] at H
          have c7b0 : decide (0 < x6_1) = true := decide_eq_true c7
          clear c7
          by_cases c8 : x6_1 = 0
          · rw [if_pos c8] at H
            exact absurd H (by simp)
          · rw [if_neg c8] at H
            have c8b0 : (x6_1 == 0) = false := beq_eq_false_iff_ne.mpr c8
            have c8b1 : (x6_1 != 0) = true := bne_iff_ne.mpr c8
            have H' := Aside0.mk H
            clear H
            go_wp2
            repeat (go_quiet (fail); try go_wp2)
            go_roundg k1
            case measure => have := HK1.out; omega
            case rel => exact ⟨(x6_1), (Int.tmod x5_1 x6_1), (wrap64 (x7_1 + 1)), (by first | rfl | (simp; done) | (simp [*]; done)), (by first | rfl | (simp; done) | (simp [*]; done)), (by first | rfl | (simp; done) | (simp [*]; done)), H', ⟨by have := HK1.out; omega⟩, ⟨by (with_reducible repeat (first | refine blk_drewN ?_ _ | refine blk_drew ?_ | refine blk_alloc ?_ _)); exact BK323.out⟩, ⟨by repeat (first | (with_reducible first | exact HB.out | apply below_alloc | apply pw_below_drewN | apply below_drew1 | refine below_set ?_ GE323.out) | exact HB.out)⟩⟩
        · rw [if_neg c7] at H
          have c7b0 : decide (0 < x6_1) = false := decide_eq_false c7
          clear c7
          replace H := Option.bind_eq_some_iff.mp H
          obtain ⟨⟨t326, t327⟩, A90, H⟩ := H
          replace H : (some (t326, t327)) = some (r1, r2) := H
          have A9 := Aside0.mk A90
          clear A90
          simp only [Option.some.injEq, Prod.mk.injEq] at H
          obtain ⟨rfl, rfl⟩ := H
          go_wp2_with (first | (go_at_call 58; (with_reducible refine (pannierref01_signed.calls k1 x5_1 false t326 t327 _ A9.out).mono ?_); rintro e w10 ⟨rfl, hb⟩; have n0_ := Aside0.mk (blk_below (g := gb323) (o := .cells #[.int .i64 0, .bool false] 57 (0, 0)) (by (with_reducible repeat (first | refine blk_drewN ?_ _ | refine blk_drew ?_ | refine blk_alloc ?_ _)); exact BK323.out) hb); have n1_ := Aside0.mk (below_step (by repeat (first | (with_reducible first | exact HB.out | apply below_alloc | apply pw_below_drewN | apply below_drew1 | refine below_set ?_ GE323.out) | exact HB.out)) hb); clear BK323; clear HB; have BK323 := n0_; have HB := n1_; clear n0_ n1_; (try clear hb); (try clear hb2); (try clear hk); (try clear hi); have hcz11_0 : w10.cell? ⟨gb323, 0, none⟩ = some (.int .i64 0) := (blk_cell BK323.out 0).trans rfl; have hcz11_1 : w10.cell? ⟨gb323, 1, none⟩ = some (.bool false) := (blk_cell BK323.out 1).trans rfl; have hfz11_0 := blk_frozen BK323.out 0; have hfz11_1 := blk_frozen BK323.out 1))
          repeat (go_quiet (first | (go_at_call 58; (with_reducible refine (pannierref01_signed.calls k1 x5_1 false t326 t327 _ A9.out).mono ?_); rintro e w10 ⟨rfl, hb⟩; have n0_ := Aside0.mk (blk_below (g := gb323) (o := .cells #[.int .i64 0, .bool false] 57 (0, 0)) (by (with_reducible repeat (first | refine blk_drewN ?_ _ | refine blk_drew ?_ | refine blk_alloc ?_ _)); exact BK323.out) hb); have n1_ := Aside0.mk (below_step (by repeat (first | (with_reducible first | exact HB.out | apply below_alloc | apply pw_below_drewN | apply below_drew1 | refine below_set ?_ GE323.out) | exact HB.out)) hb); clear BK323; clear HB; have BK323 := n0_; have HB := n1_; clear n0_ n1_; (try clear hb); (try clear hb2); (try clear hk); (try clear hi); have hcz11_0 : w10.cell? ⟨gb323, 0, none⟩ = some (.int .i64 0) := (blk_cell BK323.out 0).trans rfl; have hcz11_1 : w10.cell? ⟨gb323, 1, none⟩ = some (.bool false) := (blk_cell BK323.out 1).trans rfl; have hfz11_0 := blk_frozen BK323.out 0; have hfz11_1 := blk_frozen BK323.out 1)); try go_wp2_with (first | (go_at_call 58; (with_reducible refine (pannierref01_signed.calls k1 x5_1 false t326 t327 _ A9.out).mono ?_); rintro e w10 ⟨rfl, hb⟩; have n0_ := Aside0.mk (blk_below (g := gb323) (o := .cells #[.int .i64 0, .bool false] 57 (0, 0)) (by (with_reducible repeat (first | refine blk_drewN ?_ _ | refine blk_drew ?_ | refine blk_alloc ?_ _)); exact BK323.out) hb); have n1_ := Aside0.mk (below_step (by repeat (first | (with_reducible first | exact HB.out | apply below_alloc | apply pw_below_drewN | apply below_drew1 | refine below_set ?_ GE323.out) | exact HB.out)) hb); clear BK323; clear HB; have BK323 := n0_; have HB := n1_; clear n0_ n1_; (try clear hb); (try clear hb2); (try clear hk); (try clear hi); have hcz11_0 : w10.cell? ⟨gb323, 0, none⟩ = some (.int .i64 0) := (blk_cell BK323.out 0).trans rfl; have hcz11_1 : w10.cell? ⟨gb323, 1, none⟩ = some (.bool false) := (blk_cell BK323.out 1).trans rfl; have hfz11_0 := blk_frozen BK323.out 0; have hfz11_1 := blk_frozen BK323.out 1)))
          refine bodyPost_ret (results_cell_row rfl _ _ gb323 57 #[.int .i64 t326, .bool t327] (0, 0) _ rfl (by (with_reducible repeat (first | refine blk_drewN ?_ _ | refine blk_drew ?_ | refine blk_alloc ?_ _)); refine blk_put (cs := #[.int .i64 t326, .bool false]) ?_ 1 _ rfl; (with_reducible repeat (first | refine blk_drewN ?_ _ | refine blk_drew ?_ | refine blk_alloc ?_ _)); refine blk_put (cs := #[.int .i64 0, .bool false]) ?_ 0 _ rfl; (with_reducible repeat (first | refine blk_drewN ?_ _ | refine blk_drew ?_ | refine blk_alloc ?_ _)); exact BK323.out) Tryd.underlying57 rfl (by kernel_rfl)) rfl ?_
          exact ⟨by first | rfl | (simp [errW_none, errW_some] <;> rfl) | (simp [*, errW_none, errW_some] <;> rfl), by repeat (first | (with_reducible first | exact HB.out | apply below_alloc | apply pw_below_drewN | apply below_drew1 | refine below_set ?_ GE323.out) | exact HB.out)⟩
      · rw [if_neg c6] at H
        have c6b0 : decide (x7_1 < 200) = false := decide_eq_false c6
        clear c6
        replace H := Option.bind_eq_some_iff.mp H
        obtain ⟨⟨t328, t329⟩, A120, H⟩ := H
        replace H : (some (t328, t329)) = some (r1, r2) := H
        have A12 := Aside0.mk A120
        clear A120
        simp only [Option.some.injEq, Prod.mk.injEq] at H
        obtain ⟨rfl, rfl⟩ := H
        go_wp2_with (first | (go_at_call 58; (with_reducible refine (pannierref01_signed.calls k1 x5_1 false t328 t329 _ A12.out).mono ?_); rintro e w13 ⟨rfl, hb⟩; have n0_ := Aside0.mk (blk_below (g := gb323) (o := .cells #[.int .i64 0, .bool false] 57 (0, 0)) (by (with_reducible repeat (first | refine blk_drewN ?_ _ | refine blk_drew ?_ | refine blk_alloc ?_ _)); exact BK323.out) hb); have n1_ := Aside0.mk (below_step (by repeat (first | (with_reducible first | exact HB.out | apply below_alloc | apply pw_below_drewN | apply below_drew1 | refine below_set ?_ GE323.out) | exact HB.out)) hb); clear BK323; clear HB; have BK323 := n0_; have HB := n1_; clear n0_ n1_; (try clear hb); (try clear hb2); (try clear hk); (try clear hi); have hcz14_0 : w13.cell? ⟨gb323, 0, none⟩ = some (.int .i64 0) := (blk_cell BK323.out 0).trans rfl; have hcz14_1 : w13.cell? ⟨gb323, 1, none⟩ = some (.bool false) := (blk_cell BK323.out 1).trans rfl; have hfz14_0 := blk_frozen BK323.out 0; have hfz14_1 := blk_frozen BK323.out 1))
        repeat (go_quiet (first | (go_at_call 58; (with_reducible refine (pannierref01_signed.calls k1 x5_1 false t328 t329 _ A12.out).mono ?_); rintro e w13 ⟨rfl, hb⟩; have n0_ := Aside0.mk (blk_below (g := gb323) (o := .cells #[.int .i64 0, .bool false] 57 (0, 0)) (by (with_reducible repeat (first | refine blk_drewN ?_ _ | refine blk_drew ?_ | refine blk_alloc ?_ _)); exact BK323.out) hb); have n1_ := Aside0.mk (below_step (by repeat (first | (with_reducible first | exact HB.out | apply below_alloc | apply pw_below_drewN | apply below_drew1 | refine below_set ?_ GE323.out) | exact HB.out)) hb); clear BK323; clear HB; have BK323 := n0_; have HB := n1_; clear n0_ n1_; (try clear hb); (try clear hb2); (try clear hk); (try clear hi); have hcz14_0 : w13.cell? ⟨gb323, 0, none⟩ = some (.int .i64 0) := (blk_cell BK323.out 0).trans rfl; have hcz14_1 : w13.cell? ⟨gb323, 1, none⟩ = some (.bool false) := (blk_cell BK323.out 1).trans rfl; have hfz14_0 := blk_frozen BK323.out 0; have hfz14_1 := blk_frozen BK323.out 1)); try go_wp2_with (first | (go_at_call 58; (with_reducible refine (pannierref01_signed.calls k1 x5_1 false t328 t329 _ A12.out).mono ?_); rintro e w13 ⟨rfl, hb⟩; have n0_ := Aside0.mk (blk_below (g := gb323) (o := .cells #[.int .i64 0, .bool false] 57 (0, 0)) (by (with_reducible repeat (first | refine blk_drewN ?_ _ | refine blk_drew ?_ | refine blk_alloc ?_ _)); exact BK323.out) hb); have n1_ := Aside0.mk (below_step (by repeat (first | (with_reducible first | exact HB.out | apply below_alloc | apply pw_below_drewN | apply below_drew1 | refine below_set ?_ GE323.out) | exact HB.out)) hb); clear BK323; clear HB; have BK323 := n0_; have HB := n1_; clear n0_ n1_; (try clear hb); (try clear hb2); (try clear hk); (try clear hi); have hcz14_0 : w13.cell? ⟨gb323, 0, none⟩ = some (.int .i64 0) := (blk_cell BK323.out 0).trans rfl; have hcz14_1 : w13.cell? ⟨gb323, 1, none⟩ = some (.bool false) := (blk_cell BK323.out 1).trans rfl; have hfz14_0 := blk_frozen BK323.out 0; have hfz14_1 := blk_frozen BK323.out 1)))
        refine bodyPost_ret (results_cell_row rfl _ _ gb323 57 #[.int .i64 t328, .bool t329] (0, 0) _ rfl (by (with_reducible repeat (first | refine blk_drewN ?_ _ | refine blk_drew ?_ | refine blk_alloc ?_ _)); refine blk_put (cs := #[.int .i64 t328, .bool false]) ?_ 1 _ rfl; (with_reducible repeat (first | refine blk_drewN ?_ _ | refine blk_drew ?_ | refine blk_alloc ?_ _)); refine blk_put (cs := #[.int .i64 0, .bool false]) ?_ 0 _ rfl; (with_reducible repeat (first | refine blk_drewN ?_ _ | refine blk_drew ?_ | refine blk_alloc ?_ _)); exact BK323.out) Tryd.underlying57 rfl (by kernel_rfl)) rfl ?_
        exact ⟨by first | rfl | (simp [errW_none, errW_some] <;> rfl) | (simp [*, errW_none, errW_some] <;> rfl), by repeat (first | (with_reducible first | exact HB.out | apply below_alloc | apply pw_below_drewN | apply below_drew1 | refine below_set ?_ GE323.out) | exact HB.out)⟩

end Go.Proofs.YtohfidjbnmlfeaaDoor.P

/- Products of the reference, quotients, rests, powers and greatest divisors of both: what they come to. -/
namespace Go.Proofs.YtohfidjbnmlfeaaDoor.P
open Go.RowKit Go.Proofs.YtohfidjbnmlfeaaDoorW.PrintWords Go.Proofs.YtohfidjbnmlfeaaDoorW.PrintLast Go.Proofs.YtohfidjbnmlfeaaDoorW.PrintMore
open M (fit I64 u64w)
set_option linter.unusedVariables false
set_option linter.unusedSimpArgs false

theorem low_bit (y d : Nat) (hd : d < 64) (hy : y < 18446744073709551616) : Go.bits .and .u64 (shr .u64 (y : Int) (IntKind.u64.wrap (d : Int))) 1 = ((y / 2 ^ d % 2 : Nat) : Int) := by
  have h1 : shr .u64 (y : Int) (IntKind.u64.wrap (d : Int)) = ((y / 2 ^ d : Nat) : Int) := by
    unfold shr
    rw [u64w, show ((d : Int) % 18446744073709551616).toNat = d by omega, show min d IntKind.u64.bits = d by simp [IntKind.bits]; omega]
    rw [Int.natCast_ediv]; simp
  have hlt : y / 2 ^ d < 18446744073709551616 := Nat.lt_of_le_of_lt (Nat.div_le_self _ _) hy
  rw [h1]
  have h2 := bits_and_u64_nat (y / 2 ^ d) 1 hlt (by omega)
  rw [Nat.and_one_is_mod] at h2
  exact h2

/-! ### The reference's product -/
theorem rmul_loop (a b : Int) (ha : I64 a) (hb : I64 b) : ∀ (d : Nat) (n : Nat) (k : Nat), d ≤ 64 → n = a.natAbs * (b.natAbs / 2 ^ d) → n < 18446744073709551616 → d + 1 < k →
    pannierref01_Mul.l0 k a b a.natAbs b.natAbs n ((d : Int) - 1) = some (fit (a * b)) := by
  have hx : a.natAbs ≤ 9223372036854775808 := by unfold I64 at ha; omega
  have hy : b.natAbs < 18446744073709551616 := by unfold I64 at hb; omega
  have hm := M.mul_sizes a b
  have far : ∀ m : Nat, m ≤ a.natAbs * b.natAbs → 18446744073709551616 ≤ m → fit (a * b) = (0, false) := by
    intro m h1 h2
    apply M.fit_out
    rw [hm]
    generalize a.natAbs * b.natAbs = z at *
    split <;> omega
  intro d
  induction d with
  | zero =>
    intro n k _ hn hlt hk
    obtain ⟨k, rfl⟩ : ∃ m, k = m + 2 := ⟨k - 2, by omega⟩
    simp only [pannierref01_Mul.l0]
    rw [if_neg (by omega)]
    simp only [Nat.pow_zero, Nat.div_one] at hn
    rw [← hn] at hm
    rw [hm]
    by_cases hs : ((decide (a < 0)) != (decide (b < 0))) = true
    · rw [if_pos hs, if_pos hs, rsigned_eq _ _ _ (by omega) (by omega), Option.bind_some, fit_pair]
      by_cases h0 : (n : Int) > 0
      · rw [decide_eq_true h0, if_pos rfl]
      · rw [decide_eq_false h0, if_neg (by simp)]; congr 2; omega
    · rw [if_neg hs, if_neg hs, rsigned_eq _ _ _ (by omega) (by omega), Option.bind_some, fit_pair, if_neg (by simp)]
  | succ d ih =>
    intro n k hd hn hlt hk
    obtain ⟨k, rfl⟩ : ∃ m, k = m + 1 := ⟨k - 1, by omega⟩
    have hq : b.natAbs / 2 ^ d = 2 * (b.natAbs / 2 ^ (d + 1)) + b.natAbs / 2 ^ d % 2 := by
      rw [Nat.pow_succ, ← Nat.div_div_eq_div_mul]; omega
    have hle : a.natAbs * (b.natAbs / 2 ^ d) ≤ a.natAbs * b.natAbs := Nat.mul_le_mul_left _ (Nat.div_le_self _ _)
    have hn2 : a.natAbs * (b.natAbs / 2 ^ d) = 2 * n + a.natAbs * (b.natAbs / 2 ^ d % 2) := by
      rw [hn]; conv => lhs; rw [hq]
      rw [Nat.mul_add, Nat.mul_left_comm]
    have hbit := low_bit b.natAbs d (by omega) hy
    have e1 : ((d + 1 : Nat) : Int) - 1 = (d : Int) := by omega
    rw [e1]
    simp only [pannierref01_Mul.l0]
    rw [if_pos (by omega)]
    have hw : wrap64 ((d : Int) - 1) = (d : Int) - 1 := M.wrap64_id (by unfold I64; omega)
    by_cases h1 : (n : Int) ≥ 9223372036854775808
    · rw [if_pos h1, far (a.natAbs * (b.natAbs / 2 ^ d)) hle (by omega)]
    · rw [if_neg h1, if_pos (by rw [u64w]; omega), hbit, hw]
      have hb2 : b.natAbs / 2 ^ d % 2 = 0 ∨ b.natAbs / 2 ^ d % 2 = 1 := by omega
      rcases hb2 with hb2 | hb2
      · rw [hb2, if_neg (by decide), u64w, show (n : Int) * 2 % 18446744073709551616 = ((2 * n : Nat) : Int) by omega]
        rw [hb2, Nat.mul_zero, Nat.add_zero] at hn2
        exact ih _ k (by omega) hn2.symm (by omega) (by omega)
      · rw [hb2, if_pos (by decide), u64w, u64w]
        rw [hb2, Nat.mul_one] at hn2
        by_cases h2 : ((n : Int) * 2 % 18446744073709551616 + (a.natAbs : Int)) % 18446744073709551616 < (n : Int) * 2 % 18446744073709551616
        · rw [if_pos h2, far (a.natAbs * (b.natAbs / 2 ^ d)) hle (by omega)]
        · rw [if_neg h2, show ((n : Int) * 2 % 18446744073709551616 + (a.natAbs : Int)) % 18446744073709551616 = ((2 * n + a.natAbs : Nat) : Int) by omega]
          exact ih _ k (by omega) hn2.symm (by omega) (by omega)
theorem rmul_eq (k : Nat) (hk : 66 ≤ k) (a b : Int) (ha : I64 a) (hb : I64 b) : pannierref01_Mul.f k a b = some (fit (a * b)) := by
  unfold pannierref01_Mul.f
  rw [whole_eq a ha, Option.bind_some, whole_eq b hb, Option.bind_some]
  have h := rmul_loop a b ha hb 64 0 k (by omega) (by rw [Nat.div_eq_of_lt (by unfold I64 at hb; omega)]; omega) (by omega) (by omega)
  exact h

/-! ### Quotients and rests -/
theorem tdiv_sizes (a b : Int) : a.tdiv b = if (decide (a < 0) != decide (b < 0)) = true then -((a.natAbs / b.natAbs : Nat) : Int) else ((a.natAbs / b.natAbs : Nat) : Int) := by
  by_cases h0 : a < 0 <;> by_cases h1 : b < 0
  · rw [if_neg (by simp [h0, h1])]
    obtain ⟨x, rfl⟩ : ∃ x : Nat, a = -(x : Int) := ⟨a.natAbs, by omega⟩
    obtain ⟨y, rfl⟩ : ∃ y : Nat, b = -(y : Int) := ⟨b.natAbs, by omega⟩
    rw [Int.neg_tdiv, Int.tdiv_neg, Int.neg_neg, ← Int.ofNat_tdiv]; simp
  · rw [if_pos (by simp [h0, h1])]
    obtain ⟨x, rfl⟩ : ∃ x : Nat, a = -(x : Int) := ⟨a.natAbs, by omega⟩
    obtain ⟨y, rfl⟩ : ∃ y : Nat, b = (y : Int) := ⟨b.natAbs, by omega⟩
    rw [Int.neg_tdiv, ← Int.ofNat_tdiv]; simp
  · rw [if_pos (by simp [h0, h1])]
    obtain ⟨x, rfl⟩ : ∃ x : Nat, a = (x : Int) := ⟨a.natAbs, by omega⟩
    obtain ⟨y, rfl⟩ : ∃ y : Nat, b = -(y : Int) := ⟨b.natAbs, by omega⟩
    rw [Int.tdiv_neg, ← Int.ofNat_tdiv]; simp
  · rw [if_neg (by simp [h0, h1])]
    obtain ⟨x, rfl⟩ : ∃ x : Nat, a = (x : Int) := ⟨a.natAbs, by omega⟩
    obtain ⟨y, rfl⟩ : ∃ y : Nat, b = (y : Int) := ⟨b.natAbs, by omega⟩
    rw [← Int.ofNat_tdiv]; simp
theorem tmod_sizes (a b : Int) : a.tmod b = if a < 0 then -((a.natAbs % b.natAbs : Nat) : Int) else ((a.natAbs % b.natAbs : Nat) : Int) := by
  by_cases h0 : a < 0
  · rw [if_pos h0]
    obtain ⟨x, rfl⟩ : ∃ x : Nat, a = -(x : Int) := ⟨a.natAbs, by omega⟩
    rw [Int.neg_tmod]
    rcases Int.natAbs_eq b with h | h <;> rw [h]
    · rw [← Int.ofNat_tmod]; simp
    · rw [Int.tmod_neg, ← Int.ofNat_tmod]; simp
  · rw [if_neg h0]
    obtain ⟨x, rfl⟩ : ∃ x : Nat, a = (x : Int) := ⟨a.natAbs, by omega⟩
    rcases Int.natAbs_eq b with h | h <;> rw [h]
    · rw [← Int.ofNat_tmod]; simp
    · rw [Int.tmod_neg, ← Int.ofNat_tmod]; simp
def divS (a b : Int) : Int × Bool := if b = 0 then (0, false) else fit (a.tdiv b)
def modS (a b : Int) : Int × Bool := if b = 0 then (0, false) else if (fit (a.tdiv b)).2 = true then (a.tmod b, true) else (0, false)
theorem div_le2 (x y : Nat) (h : 2 ≤ y) : x / y ≤ x / 2 := Nat.div_le_div_left h (by omega)
theorem tdiv_in (a b : Int) (ha : I64 a) (h0 : b ≠ 0) (h : ¬ (a = -9223372036854775808 ∧ b = -1)) : I64 (a.tdiv b) := by
  rw [tdiv_sizes]
  unfold I64 at *
  have hle := Nat.div_le_self a.natAbs b.natAbs
  by_cases h1 : 2 ≤ b.natAbs
  · have h2 := div_le2 a.natAbs b.natAbs h1
    generalize a.natAbs / b.natAbs = q at *
    split <;> omega
  · have hb : b.natAbs = 1 := by omega
    rw [hb, Nat.div_one]
    rcases (by omega : b = 1 ∨ b = -1) with rfl | rfl <;> by_cases h3 : a < 0 <;> simp [h3] <;> omega
theorem div_eq (a b : Int) (ha : I64 a) : num_Div.f a b = some (divS a b) := by
  unfold num_Div.f divS
  by_cases h0 : b = 0
  · rw [if_pos h0, if_pos h0]
  · rw [if_neg h0, if_neg h0]
    by_cases h1 : a = -9223372036854775808
    · rw [if_pos h1]
      by_cases h2 : b = -1
      · subst h1; subst h2; rfl
      · rw [if_neg h2, M.fit_in (tdiv_in a b ha h0 (by omega)), M.wrap64_id (tdiv_in a b ha h0 (by omega))]
    · rw [if_neg h1, M.fit_in (tdiv_in a b ha h0 (by omega)), M.wrap64_id (tdiv_in a b ha h0 (by omega))]
theorem mod_eq (a b : Int) (ha : I64 a) : num_Mod.f a b = some (modS a b) := by
  unfold num_Mod.f modS
  rw [div_eq a b ha, Option.bind_some]
  unfold divS
  by_cases h0 : b = 0
  · simp [h0]
  · by_cases h1 : (fit (a.tdiv b)).2 = true
    · simp [h0, h1]
    · simp [h0, h1]
theorem rdiv_eq (k : Nat) (a b : Int) (ha : I64 a) (hb : I64 b) : pannierref01_Div.f (k + 1) a b = some (divS a b) := by
  unfold pannierref01_Div.f divS
  by_cases h0 : b = 0
  · rw [if_pos h0, if_pos h0]
  · have hle := Nat.div_le_self a.natAbs b.natAbs
    unfold I64 at ha hb
    rw [if_neg h0, if_neg h0, whole_eq a ha, Option.bind_some, whole_eq b hb, Option.bind_some, if_neg (by omega), ← Int.ofNat_tdiv, u64w, tdiv_sizes]
    generalize a.natAbs / b.natAbs = q at *
    rw [show (q : Int) % 18446744073709551616 = q by omega]
    by_cases hs : ((decide (a < 0)) != (decide (b < 0))) = true
    · rw [if_pos hs, if_pos hs, rsigned_eq _ _ _ (by omega) (by omega), Option.bind_some, fit_pair]
      by_cases h0 : (q : Int) > 0
      · rw [decide_eq_true h0, if_pos rfl]
      · rw [decide_eq_false h0, if_neg (by simp)]; congr 2; omega
    · rw [if_neg hs, if_neg hs, rsigned_eq _ _ _ (by omega) (by omega), Option.bind_some, fit_pair, if_neg (by simp)]
theorem rmod_eq (k : Nat) (a b : Int) (ha : I64 a) (hb : I64 b) : pannierref01_Mod.f (k + 2) a b = some (modS a b) := by
  unfold pannierref01_Mod.f modS
  by_cases h0 : b = 0
  · rw [if_pos h0, if_pos h0]; simp only [pannierref01_Mod.j0]; rw [if_pos trivial]
  · rw [if_neg h0, if_neg h0, rdiv_eq _ a b ha hb, Option.bind_some]
    unfold divS
    rw [if_neg h0]
    simp only [pannierref01_Mod.j0]
    by_cases h1 : (fit (a.tdiv b)).2 = true
    · rw [if_neg (by simp [h1]), if_pos h1, whole_eq a ha, Option.bind_some, whole_eq b hb, Option.bind_some, if_neg (by unfold I64 at hb; omega), ← Int.ofNat_tmod, tmod_sizes]
      have hle := Nat.mod_le a.natAbs b.natAbs
      unfold I64 at ha
      generalize a.natAbs % b.natAbs = q at *
      by_cases h2 : a < 0
      · rw [if_pos h2, if_pos h2, rsigned_eq _ _ _ (by omega) (by omega), Option.bind_some, fit_pair]
        by_cases h0 : (q : Int) > 0
        · rw [decide_eq_true h0, if_pos rfl, M.fit_in (by omega)]
        · rw [decide_eq_false h0, if_neg (by simp), M.fit_in (by omega)]; congr 2; omega
      · rw [if_neg h2, if_neg h2, rsigned_eq _ _ _ (by omega) (by omega), Option.bind_some, fit_pair, if_neg (by simp), M.fit_in (by omega)]
    · rw [if_pos (by simpa using h1), if_neg h1]

/-! ### Powers -/
theorem pow_far (a : Int) (n m : Nat) (h : ¬ I64 (a ^ n)) (hnm : n ≤ m) : ¬ I64 (a ^ m) := by
  by_cases hs : a.natAbs ≤ 1
  · exfalso; apply h
    have h1 : (a ^ n).natAbs ≤ 1 := by
      rw [Int.natAbs_pow]
      calc a.natAbs ^ n ≤ 1 ^ n := Nat.pow_le_pow_left hs n
        _ = 1 := Nat.one_pow n
    unfold I64; omega
  · rcases Nat.eq_or_lt_of_le hnm with rfl | hlt
    · exact h
    · have h1 : 9223372036854775808 ≤ (a ^ n).natAbs := by unfold I64 at h; omega
      have h2 : (a ^ m).natAbs = a.natAbs ^ (m - n) * (a ^ n).natAbs := by
        rw [Int.natAbs_pow, Int.natAbs_pow, ← Nat.pow_add]; congr 1; omega
      have h3 : 2 ≤ a.natAbs ^ (m - n) := by
        calc 2 = 2 ^ 1 := rfl
          _ ≤ a.natAbs ^ 1 := Nat.pow_le_pow_left (by omega) 1
          _ ≤ a.natAbs ^ (m - n) := Nat.pow_le_pow_right (by omega) (by omega)
      have h4 : 2 * 9223372036854775808 ≤ (a ^ m).natAbs := by rw [h2]; exact Nat.mul_le_mul h3 h1
      unfold I64; omega
def powS (a b : Int) : Int × Bool := if b < 0 then (0, false) else fit (a ^ b.toNat)
theorem pow_loop (a b : Int) (ha : I64 a) (hb : I64 b) : ∀ (d i k : Nat), b = (i : Int) + d → I64 (a ^ i) → d + 3 < k → num_Pow.l0 k a b (a ^ i) true i = some (fit (a ^ b.toNat)) := by
  intro d
  induction d with
  | zero =>
    intro i k hi hf hk
    obtain ⟨k, rfl⟩ : ∃ m, k = m + 1 := ⟨k - 1, by omega⟩
    simp only [num_Pow.l0]
    rw [if_neg (by omega), M.fit_in (by rw [show b.toNat = i by omega]; exact hf)]
    rw [show b.toNat = i by omega]
  | succ d ih =>
    intro i k hi hf hk
    obtain ⟨k, rfl⟩ : ∃ m, k = m + 2 := ⟨k - 2, by omega⟩
    simp only [num_Pow.l0]
    rw [if_pos (by omega), if_pos trivial, mul_eq _ _ _ hf ha, Option.bind_some, show a ^ i * a = a ^ (i + 1) from (Int.pow_succ a i).symm]
    have hw : wrap64 ((i : Int) + 1) = ((i + 1 : Nat) : Int) := by rw [M.wrap64_id (by unfold I64 at *; omega)]; omega
    rw [hw]
    by_cases hn : I64 (a ^ (i + 1))
    · rw [M.fit_in hn]
      exact ih (i + 1) (k + 1) (by omega) hn (by omega)
    · rw [M.fit_out hn, M.fit_out (pow_far a (i + 1) b.toNat hn (by omega))]
      simp only [num_Pow.l0]
      by_cases h : ((i + 1 : Nat) : Int) < b
      · rw [if_pos h, if_neg (by simp)]
      · rw [if_neg h]
theorem and_one (b : Int) (h0 : 0 ≤ b) (h1 : b ≤ 9223372036854775807) : Go.bits .and .i64 b 1 = b % 2 := by
  obtain ⟨n, rfl⟩ := Int.eq_ofNat_of_zero_le h0
  have h := bits_nat .i64 63 (by decide) (by intro n h0 h1; rw [IntKind.wrap_i64]; omega) n 1 (by omega) (by omega)
  have h2 := h.1
  rw [Nat.and_one_is_mod] at h2
  exact h2
theorem pow_eq (k : Nat) (a b : Int) (ha : I64 a) (hb : I64 b) (hk : b.toNat + 5 < k) : num_Pow.f k a b = some (powS a b) := by
  unfold num_Pow.f powS
  by_cases h0 : b < 0
  · rw [if_pos h0, if_pos h0]
  · rw [if_neg h0, if_neg h0]
    have run : ∀ c : Int, 0 ≤ c → c ≤ b → num_Pow.j0 k a c = some (fit (a ^ c.toNat)) := by
      intro c hc hcb
      obtain ⟨k, rfl⟩ : ∃ m, k = m + 1 := ⟨k - 1, by omega⟩
      simp only [num_Pow.j0]
      have := pow_loop a c ha (by unfold I64 at *; omega) c.toNat 0 k (by omega) (by rw [Int.pow_zero]; unfold I64; omega) (by omega)
      rw [Int.pow_zero] at this
      exact this
    by_cases h1 : a = -1
    · rw [if_pos h1, and_one b (by omega) (by unfold I64 at hb; omega)]
      have hm : mn (b % 2) 1 = b % 2 := by unfold mn; split <;> omega
      rw [hm, run (b % 2) (by omega) (by omega), h1]
      congr 2
      rw [show b.toNat = 2 * (b.toNat / 2) + b.toNat % 2 by omega, Int.pow_add, Int.pow_mul]
      rw [show ((-1 : Int) ^ 2) = 1 by decide, Int.one_pow, Int.one_mul]
      congr 1; omega
    · rw [if_neg h1]
      by_cases h2 : a = 0
      · rw [if_pos h2, run (mn b 1) (by unfold mn; split <;> omega) (by unfold mn; split <;> omega), h2]
        congr 2
        unfold mn
        by_cases h3 : 1 < b
        · rw [if_pos h3, show b.toNat = (b.toNat - 1) + 1 by omega, Int.pow_succ]; simp
        · rw [if_neg h3]
      · rw [if_neg h2]
        by_cases h3 : a = 1
        · rw [if_pos h3, run (mn b 1) (by unfold mn; split <;> omega) (by unfold mn; split <;> omega), h3, Int.one_pow, Int.one_pow]
        · rw [if_neg h3]; exact run b (by omega) (by omega)
theorem rpow_loop (a b : Int) (ha : I64 a) (hb : I64 b) (h64 : b ≤ 64) : ∀ (d i k : Nat), b = (i : Int) + d → I64 (a ^ i) → 2 * d + 70 < k → pannierref01_Pow.l0 k a b i (a ^ i) true = some (fit (a ^ b.toNat)) := by
  intro d
  induction d with
  | zero =>
    intro i k hi hf hk
    obtain ⟨k, rfl⟩ : ∃ m, k = m + 2 := ⟨k - 2, by omega⟩
    simp only [pannierref01_Pow.l0, pannierref01_Pow.j1]
    rw [if_neg (by omega), if_neg (by simp), show b.toNat = i by omega, M.fit_in hf]
  | succ d ih =>
    intro i k hi hf hk
    obtain ⟨k, rfl⟩ : ∃ m, k = m + 2 := ⟨k - 2, by omega⟩
    simp only [pannierref01_Pow.l0, pannierref01_Pow.j1]
    rw [if_pos (by omega), decide_eq_true (by omega), if_pos rfl, rmul_eq k (by omega) _ _ hf ha, Option.bind_some, show a ^ i * a = a ^ (i + 1) from (Int.pow_succ a i).symm]
    have hw : wrap64 ((i : Int) + 1) = ((i + 1 : Nat) : Int) := by rw [M.wrap64_id (by unfold I64 at *; omega)]; omega
    rw [hw]
    by_cases hn : I64 (a ^ (i + 1))
    · rw [M.fit_in hn, if_pos rfl]
      exact ih (i + 1) k (by omega) hn (by omega)
    · rw [M.fit_out hn, M.fit_out (pow_far a (i + 1) b.toNat hn (by omega)), if_neg (by simp)]
theorem rpow_eq (k : Nat) (a b : Int) (ha : I64 a) (hb : I64 b) (hk : 300 ≤ k) : pannierref01_Pow.f k a b = some (powS a b) := by
  unfold pannierref01_Pow.f powS
  by_cases h0 : b < 0
  · rw [if_pos h0, if_pos h0]
  · rw [if_neg h0, if_neg h0]
    by_cases h1 : a = 0
    · rw [if_pos h1, h1]
      by_cases h2 : b = 0
      · rw [if_pos h2, h2]; rfl
      · rw [if_neg h2, show b.toNat = (b.toNat - 1) + 1 by omega, Int.pow_succ]; simp [fit]
    · rw [if_neg h1]
      by_cases h2 : a = 1
      · rw [if_pos h2, h2, Int.one_pow]; rfl
      · rw [if_neg h2]
        by_cases h3 : a = -1
        · rw [if_pos h3, h3]
          rw [show b.toNat = 2 * (b.toNat / 2) + b.toNat % 2 by omega, Int.pow_add, Int.pow_mul]
          rw [show ((-1 : Int) ^ 2) = 1 by decide, Int.one_pow, Int.one_mul]
          have e : Int.tmod b 2 = b % 2 := Int.tmod_eq_emod_of_nonneg (by omega)
          rw [e]
          rcases (by omega : b % 2 = 0 ∨ b % 2 = 1) with h | h
          · rw [h, show b.toNat % 2 = 0 by omega, show wrap64 (1 - wrap64 (0 * 2)) = 1 by unfold wrap64; decide]; rfl
          · rw [h, show b.toNat % 2 = 1 by omega, show wrap64 (1 - wrap64 (1 * 2)) = -1 by unfold wrap64; decide]; rfl
        · rw [if_neg h3]
          by_cases h4 : b > 64
          · rw [if_pos h4]
            have hp : (a ^ 64).natAbs ≥ 2 ^ 64 := by rw [Int.natAbs_pow]; exact Nat.pow_le_pow_left (by omega) 64
            rw [M.fit_out (pow_far a 64 b.toNat (by unfold I64; omega) (by omega))]
          · rw [if_neg h4]
            have := rpow_loop a b ha hb (by omega) b.toNat 0 k (by omega) (by rw [Int.pow_zero]; unfold I64; omega) (by omega)
            rw [Int.pow_zero] at this
            exact this

/-! ### Greatest divisors -/
theorem gcd_loop : ∀ (y x k : Nat), x < 18446744073709551616 → y < 18446744073709551616 → y + 2 < k → num_Gcd.l0 k (x : Int) (y : Int) = some (fit ((Nat.gcd x y : Nat) : Int)) := by
  intro y
  induction y using Nat.strongRecOn with
  | _ y ih =>
    intro x k hx hy hk
    obtain ⟨k, rfl⟩ : ∃ m, k = m + 2 := ⟨k - 2, by omega⟩
    rw [num_Gcd.l0]
    by_cases h0 : y = 0
    · subst h0
      rw [if_neg (by simp), signed_eq _ _ _ (by omega) (by omega), Option.bind_some, fit_pair, if_neg (by simp), Nat.gcd_zero_right]
    · rw [if_pos (by omega), if_neg (by omega), ← Int.ofNat_tmod]
      have hlt : x % y < y := Nat.mod_lt _ (by omega)
      rw [ih (x % y) hlt y (k + 1) hy (by omega) (by omega)]
      rw [Nat.gcd_comm y, ← Nat.gcd_rec, Nat.gcd_comm]
def gcdS (a b : Int) : Int × Bool := fit ((Nat.gcd a.natAbs b.natAbs : Nat) : Int)
theorem gcd_eq (k : Nat) (a b : Int) (ha : I64 a) (hb : I64 b) (hk : b.natAbs + 3 < k) : num_Gcd.f k a b = some (gcdS a b) := by
  unfold num_Gcd.f gcdS
  rw [size_eq a ha, Option.bind_some, size_eq b hb, Option.bind_some]
  unfold I64 at ha hb
  exact gcd_loop _ _ k (by omega) (by omega) (by omega)
theorem rgcd_loop : ∀ (n y x i k : Nat), x < 18446744073709551616 → y < 18446744073709551616 → y < 2 ^ n → i + 2 * n ≤ 200 → 2 * n + 5 < k → pannierref01_Gcd.l0 k (x : Int) (y : Int) (i : Int) = some (fit ((Nat.gcd x y : Nat) : Int)) := by
  have stop : ∀ (x i k : Nat), x < 18446744073709551616 → 2 ≤ k → pannierref01_Gcd.l0 k (x : Int) ((0 : Nat) : Int) (i : Int) = some (fit (x : Int)) := by
    intro x i k hx hk
    obtain ⟨k, rfl⟩ : ∃ m, k = m + 2 := ⟨k - 2, by omega⟩
    have e : (pannierref01_signed.f (k + 1) (x : Int) false).bind (fun bt326 => (some (bt326.1, bt326.2))) = some (fit (x : Int)) := by
      rw [rsigned_eq _ _ _ (by omega) (by omega), Option.bind_some, fit_pair, if_neg (by simp)]
    rw [pannierref01_Gcd.l0, if_neg (by simp : ¬ (((0 : Nat) : Int) > 0)), e]
    split <;> rfl
  intro n
  induction n with
  | zero =>
    intro y x i k hx hy hn hi hk
    obtain rfl : y = 0 := by omega
    rw [stop x i k hx (by omega), Nat.gcd_zero_right]
  | succ n ih =>
    intro y x i k hx hy hn hi hk
    by_cases h0 : y = 0
    · subst h0; rw [stop x i k hx (by omega), Nat.gcd_zero_right]
    · obtain ⟨k, rfl⟩ : ∃ m, k = m + 1 := ⟨k - 1, by omega⟩
      have hlt : x % y < y := Nat.mod_lt _ (by omega)
      have hw : wrap64 ((i : Int) + 1) = ((i + 1 : Nat) : Int) := by rw [M.wrap64_id (by unfold I64; omega)]; omega
      have hw2 : wrap64 (((i + 1 : Nat) : Int) + 1) = ((i + 2 : Nat) : Int) := by rw [M.wrap64_id (by unfold I64; omega)]; omega
      have hg : Nat.gcd x y = Nat.gcd y (x % y) := by rw [Nat.gcd_comm y, ← Nat.gcd_rec, Nat.gcd_comm]
      rw [pannierref01_Gcd.l0, if_pos (by omega), if_pos (by omega), if_neg (by omega), ← Int.ofNat_tmod, hw, hg]
      by_cases h1 : x % y = 0
      · rw [h1, stop y (i + 1) k hy (by omega), Nat.gcd_zero_right]
      · obtain ⟨k, rfl⟩ : ∃ m, k = m + 1 := ⟨k - 1, by omega⟩
        have hlt2 : y % (x % y) < x % y := Nat.mod_lt _ (by omega)
        have hg2 : Nat.gcd y (x % y) = Nat.gcd (x % y) (y % (x % y)) := by rw [Nat.gcd_comm (x % y), ← Nat.gcd_rec, Nat.gcd_comm]
        rw [pannierref01_Gcd.l0, if_pos (by omega), if_pos (by omega), if_neg (by omega), ← Int.ofNat_tmod, hw2, hg2]
        have hhalf : 2 * (y % (x % y)) < y := by
          by_cases h2 : 2 * (x % y) ≤ y
          · omega
          · rw [Nat.mod_eq_sub_mod (by omega), Nat.mod_eq_of_lt (by omega)]; omega
        rw [Nat.pow_succ] at hn
        exact ih (y % (x % y)) (x % y) (i + 2) k (by omega) (by omega) (by omega) (by omega) (by omega)
theorem rgcd_eq (k : Nat) (a b : Int) (ha : I64 a) (hb : I64 b) (hk : 300 ≤ k) : pannierref01_Gcd.f k a b = some (gcdS a b) := by
  unfold pannierref01_Gcd.f gcdS
  rw [whole_eq a ha, Option.bind_some, whole_eq b hb, Option.bind_some]
  unfold I64 at ha hb
  exact rgcd_loop 64 _ _ 0 k (by omega) (by omega) (by omega) (by omega) (by omega)
end Go.Proofs.YtohfidjbnmlfeaaDoor.P

namespace Go.Proofs.YtohfidjbnmlfeaaDoor.P
open Go.RowKit Go.Proofs.YtohfidjbnmlfeaaDoorW.PrintWords Go.Proofs.YtohfidjbnmlfeaaDoorW.PrintLast Go.Proofs.YtohfidjbnmlfeaaDoorW.PrintMore
attribute [local go_sem] max2_int min2_int max_two min_two max_three min_three max_four min_four   -- for this text's walks alone
set_option linter.unusedVariables false
set_option linter.unusedSimpArgs false

/-! ### pannierref01_digits: function 60 -/
def pannierref01_digits.l0 : Nat → Int → ByteArray → Int → Option (ByteArray)
  | 0, _, _, _ => none
  | k + 1, x0, x3, x4 => if x4 < 20 then (if 0 ≤ (Int.tmod x0 10) then (if (Int.tmod x0 10) ≤ (IntKind.u64.wrap ((Int.tmod x0 10) + 1)) then (if (IntKind.u64.wrap ((Int.tmod x0 10) + 1)) ≤ 10 then (if ((⟨#[48, 49, 50, 51, 52, 53, 54, 55, 56, 57]⟩ : ByteArray).extract ((Int.tmod x0 10) : Int).toNat ((IntKind.u64.wrap ((Int.tmod x0 10) + 1)) : Int).toNat).size + x3.size ≤ 9223372036854775807 then (if (IntKind.u64.wrap (Int.tdiv x0 10)) = 0 then (some (((⟨#[48, 49, 50, 51, 52, 53, 54, 55, 56, 57]⟩ : ByteArray).extract ((Int.tmod x0 10) : Int).toNat ((IntKind.u64.wrap ((Int.tmod x0 10) + 1)) : Int).toNat) ++ x3)) else (pannierref01_digits.l0 k (IntKind.u64.wrap (Int.tdiv x0 10)) (((⟨#[48, 49, 50, 51, 52, 53, 54, 55, 56, 57]⟩ : ByteArray).extract ((Int.tmod x0 10) : Int).toNat ((IntKind.u64.wrap ((Int.tmod x0 10) + 1)) : Int).toNat) ++ x3) (wrap64 (x4 + 1)))) else (none)) else (none)) else (none)) else (none)) else (some x3)
def pannierref01_digits.f (k : Nat) (a0 : Int) : Option (ByteArray) := pannierref01_digits.l0 k a0 (⟨#[]⟩ : ByteArray) 0
theorem pannierref01_digits.mono_l : ∀ k, (∀ y0 y1 y2, LeO (pannierref01_digits.l0 k y0 y1 y2) (pannierref01_digits.l0 (k + 1) y0 y1 y2))
  | 0 => fun _ _ _ r h => by simp [pannierref01_digits.l0] at h
  | k + 1 => by
    have ih0 := pannierref01_digits.mono_l k
    · intro y0 y1 y2
      unfold pannierref01_digits.l0
      repeat' first
      | (with_reducible exact ih0 _ _ _)
      | (with_reducible exact LeO.refl _)
      | (with_reducible exact LeO.none _)
      | (with_reducible refine LeO.ite ?_ ?_)
      | (with_reducible refine LeO.bind ?_ (fun _ => ?_))
      | exact ih0 _ _ _
      | exact LeO.none _
      | refine LeO.ite ?_ ?_
      | refine LeO.bind ?_ (fun _ => ?_)
theorem pannierref01_digits.mono : ∀ a0 k, LeO (pannierref01_digits.f k a0) (pannierref01_digits.f (k + 1) a0) := by
  intro a0 k
  have ih0 := pannierref01_digits.mono_l k
  unfold pannierref01_digits.f
  repeat' first
      | (with_reducible exact ih0 _ _ _)
      | (with_reducible exact LeO.refl _)
      | (with_reducible exact LeO.none _)
      | (with_reducible refine LeO.ite ?_ ?_)
      | (with_reducible refine LeO.bind ?_ (fun _ => ?_))
      | exact ih0 _ _ _
      | exact LeO.none _
      | refine LeO.ite ?_ ?_
      | refine LeO.bind ?_ (fun _ => ?_)
set_option maxHeartbeats 8000000 in
set_option maxRecDepth 100000 in
theorem pannierref01_digits.calls (k : Nat) (a0 : Int) (r : ByteArray) (w : World) (h : pannierref01_digits.f k a0 = some r) :
    Calls Tryd.prog 60 #[.int .u64 a0] w fun e w' => e = .returned (.string r) ∧ Drawn0 w w' := by
  have H : (pannierref01_digits.l0 k a0 (⟨#[]⟩ : ByteArray) 0) = some r := h
  clear h
  have H' := Aside0.mk H
  clear H
  go_enter Tryd.func60, Tryd.ntmps60
  go_wp2
  go_loopg [0, 3, 4] k (fun kq v0 v3 v4 w' => ∃ (x0_1 : Int) (x3_1 : ByteArray) (x4_1 : Int), v0 = .int .u64 x0_1 ∧ v3 = .string x3_1 ∧ v4 = .int .i64 x4_1 ∧ Aside0 (pannierref01_digits.l0 kq x0_1 x3_1 x4_1 = some r) ∧ Aside0 (kq ≤ k) ∧ Drawn0 w w')
  case atStart => exact ⟨(a0), ((⟨#[]⟩ : ByteArray)), (0), (by first | rfl | (simp; done) | (simp [*]; done)), (by first | rfl | (simp; done) | (simp [*]; done)), (by first | rfl | (simp; done) | (simp [*]; done)), H', ⟨Nat.le_refl _⟩, by repeat (first | exact Drawn0.refl _ | apply Drawn0.step)⟩
  case round =>
    clear H'
    obtain ⟨x0_1, x3_1, x4_1, rfl, rfl, rfl, HA, HK1, ⟨m1, rfl⟩⟩ := hrel
    cases gk with
    | zero => exact absurd HA.out (by simp [pannierref01_digits.l0])
    | succ k1 =>
      have H := HA.out
      clear HA
      simp only [pannierref01_digits.l0] at H
      by_cases c2 : x4_1 < 20
      · rw [if_pos c2] at H
        have c2b0 : decide (x4_1 < 20) = true := decide_eq_true c2
        clear c2
        obtain ⟨ji3, hji3⟩ : ∃ j_ : Int, (Int.tmod x0_1 10) = j_ := ⟨_, rfl⟩
        replace H : (if 0 ≤ (ji3) then (if (ji3) ≤ (IntKind.u64.wrap ((ji3) + 1)) then (if (IntKind.u64.wrap ((ji3) + 1)) ≤ 10 then (if ((⟨#[48, 49, 50, 51, 52, 53, 54, 55, 56, 57]⟩ : ByteArray).extract ((ji3) : Int).toNat ((IntKind.u64.wrap ((ji3) + 1)) : Int).toNat).size + x3_1.size ≤ 9223372036854775807 then (if (IntKind.u64.wrap (Int.tdiv x0_1 10)) = 0 then (some (((⟨#[48, 49, 50, 51, 52, 53, 54, 55, 56, 57]⟩ : ByteArray).extract ((ji3) : Int).toNat ((IntKind.u64.wrap ((ji3) + 1)) : Int).toNat) ++ x3_1)) else (pannierref01_digits.l0 k1 (IntKind.u64.wrap (Int.tdiv x0_1 10)) (((⟨#[48, 49, 50, 51, 52, 53, 54, 55, 56, 57]⟩ : ByteArray).extract ((ji3) : Int).toNat ((IntKind.u64.wrap ((ji3) + 1)) : Int).toNat) ++ x3_1) (wrap64 (x4_1 + 1)))) else (none)) else (none)) else (none)) else (none)) = some r := by first | (rw [hji3] at H; exact H) | (simp only [hji3] at H ⊢; exact H)
        by_cases c4 : 0 ≤ (ji3)
        · rw [if_pos c4] at H
          have c4b0 := eq_true c4
          have c4b1 : decide (0 ≤ (ji3)) = true := decide_eq_true c4
          clear c4
          by_cases c5 : (ji3) ≤ (IntKind.u64.wrap ((ji3) + 1))
          · rw [if_pos c5] at H
            have c5b0 := eq_true c5
            have c5b1 : decide ((ji3) ≤ (IntKind.u64.wrap ((ji3) + 1))) = true := decide_eq_true c5
            by_cases c6 : (IntKind.u64.wrap ((ji3) + 1)) ≤ 10
            · rw [if_pos c6] at H
              have c6b0 := eq_true c6
              have c6b1 : decide ((IntKind.u64.wrap ((ji3) + 1)) ≤ 10) = true := decide_eq_true c6
              by_cases c7 : ((⟨#[48, 49, 50, 51, 52, 53, 54, 55, 56, 57]⟩ : ByteArray).extract ((ji3) : Int).toNat ((IntKind.u64.wrap ((ji3) + 1)) : Int).toNat).size + x3_1.size ≤ 9223372036854775807
              · rw [if_pos c7] at H
                have c7b0 := eq_true c7
                have c7b1 : decide (((⟨#[48, 49, 50, 51, 52, 53, 54, 55, 56, 57]⟩ : ByteArray).extract ((ji3) : Int).toNat ((IntKind.u64.wrap ((ji3) + 1)) : Int).toNat).size + x3_1.size ≤ 9223372036854775807) = true := decide_eq_true c7
                try have c7b2 : (9223372036854775807 < ((⟨#[48, 49, 50, 51, 52, 53, 54, 55, 56, 57]⟩ : ByteArray).extract ((ji3) : Int).toNat ((IntKind.u64.wrap ((ji3) + 1)) : Int).toNat).size + x3_1.size) = False := eq_false (Nat.not_lt.2 c7)
                by_cases c8 : (IntKind.u64.wrap (Int.tdiv x0_1 10)) = 0
                · rw [if_pos c8] at H
                  have c8b0 : ((IntKind.u64.wrap (Int.tdiv x0_1 10)) == 0) = true := beq_iff_eq.mpr c8
                  have c8b1 : ((IntKind.u64.wrap (Int.tdiv x0_1 10)) != 0) = false := bne_eq_false_iff_eq.mpr c8
                  clear c8
                  obtain rfl := Option.some.inj H
                  go_wp2
                  go_ret
                  exact ⟨by first | rfl | (simp; done) | (simp only [← hji3] <;> (first | rfl | simp)) | (simp [*]; done), by repeat (first | exact Drawn0.refl _ | apply Drawn0.step)⟩
                · rw [if_neg c8] at H
                  have c8b0 : ((IntKind.u64.wrap (Int.tdiv x0_1 10)) == 0) = false := beq_eq_false_iff_ne.mpr c8
                  have c8b1 : ((IntKind.u64.wrap (Int.tdiv x0_1 10)) != 0) = true := bne_iff_ne.mpr c8
                  have H' := Aside0.mk H
                  clear H
                  go_wp2
                  go_roundg k1
                  case measure => have := HK1.out; omega
                  case rel => exact ⟨(IntKind.u64.wrap (Int.tdiv x0_1 10)), (((⟨#[48, 49, 50, 51, 52, 53, 54, 55, 56, 57]⟩ : ByteArray).extract ((ji3) : Int).toNat ((IntKind.u64.wrap ((ji3) + 1)) : Int).toNat) ++ x3_1), (wrap64 (x4_1 + 1)), (by first | rfl | (simp; done) | (simp [*]; done)), (by first | rfl | (simp; done) | (simp only [← hji3] <;> (first | rfl | simp)) | (simp [*]; done)), (by first | rfl | (simp; done) | (simp [*]; done)), H', ⟨by have := HK1.out; omega⟩, by repeat (first | exact Drawn0.refl _ | apply Drawn0.step)⟩
              · rw [if_neg c7] at H
                exact absurd H (by simp)
            · rw [if_neg c6] at H
              exact absurd H (by simp)
          · rw [if_neg c5] at H
            exact absurd H (by simp)
        · rw [if_neg c4] at H
          exact absurd H (by simp)
      · rw [if_neg c2] at H
        have c2b0 : decide (x4_1 < 20) = false := decide_eq_false c2
        clear c2
        obtain rfl := Option.some.inj H
        go_wp2
        go_ret
        exact ⟨by first | rfl | (simp; done) | (simp [*]; done), by repeat (first | exact Drawn0.refl _ | apply Drawn0.step)⟩

end Go.Proofs.YtohfidjbnmlfeaaDoor.P

namespace Go.Proofs.YtohfidjbnmlfeaaDoor.P
open Go.RowKit Go.Proofs.YtohfidjbnmlfeaaDoorW.PrintWords Go.Proofs.YtohfidjbnmlfeaaDoorW.PrintLast Go.Proofs.YtohfidjbnmlfeaaDoorW.PrintMore
attribute [local go_sem] max2_int min2_int max_two min_two max_three min_three max_four min_four   -- for this text's walks alone
set_option linter.unusedVariables false
set_option linter.unusedSimpArgs false

/-! ### pannierref01_Dec: function 38 -/
def pannierref01_Dec.f (k : Nat) (a0 : Int) : Option (ByteArray) := if a0 < 0 then ((pannierref01_whole.f a0).bind fun t189 => ((pannierref01_digits.f k t189).bind fun t190 => (if 1 + t190.size ≤ 9223372036854775807 then (some ((⟨#[45]⟩ : ByteArray) ++ t190)) else (none)))) else ((pannierref01_whole.f a0).bind fun t191 => ((pannierref01_digits.f k t191).bind fun t192 => (some t192)))
theorem pannierref01_Dec.mono : ∀ a0 k, LeO (pannierref01_Dec.f k a0) (pannierref01_Dec.f (k + 1) a0) := by
  intro a0 k
  unfold pannierref01_Dec.f
  repeat' first
      | (with_reducible exact pannierref01_digits.mono _ _)
      | (with_reducible exact LeO.refl _)
      | (with_reducible exact LeO.none _)
      | (with_reducible refine LeO.ite ?_ ?_)
      | (with_reducible refine LeO.bind ?_ (fun _ => ?_))
      | exact pannierref01_digits.mono _ _
      | exact LeO.none _
      | refine LeO.ite ?_ ?_
      | refine LeO.bind ?_ (fun _ => ?_)
set_option maxHeartbeats 8000000 in
set_option maxRecDepth 100000 in
theorem pannierref01_Dec.calls (k : Nat) (a0 : Int) (r : ByteArray) (w : World) (h : pannierref01_Dec.f k a0 = some r) :
    Calls Tryd.prog 38 #[.int .i64 a0] w fun e w' => e = .returned (.string r) ∧ Drawn0 w w' := by
  have H : (if a0 < 0 then ((pannierref01_whole.f a0).bind fun t189 => ((pannierref01_digits.f k t189).bind fun t190 => (if 1 + t190.size ≤ 9223372036854775807 then (some ((⟨#[45]⟩ : ByteArray) ++ t190)) else (none)))) else ((pannierref01_whole.f a0).bind fun t191 => ((pannierref01_digits.f k t191).bind fun t192 => (some t192)))) = some r := h
  clear h
  by_cases c2 : a0 < 0
  · rw [if_pos c2] at H
    have c2b0 : decide (a0 < 0) = true := decide_eq_true c2
    clear c2
    replace H := Option.bind_eq_some_iff.mp H
    obtain ⟨t189, A30, H⟩ := H
    replace H : ((pannierref01_digits.f k t189).bind fun t190 => (if 1 + t190.size ≤ 9223372036854775807 then (some ((⟨#[45]⟩ : ByteArray) ++ t190)) else (none))) = some r := H
    have A3 := Aside0.mk A30
    clear A30
    replace H := Option.bind_eq_some_iff.mp H
    obtain ⟨t190, A40, H⟩ := H
    replace H : (if 1 + t190.size ≤ 9223372036854775807 then (some ((⟨#[45]⟩ : ByteArray) ++ t190)) else (none)) = some r := H
    have A4 := Aside0.mk A40
    clear A40
    by_cases c5 : 1 + t190.size ≤ 9223372036854775807
    · rw [if_pos c5] at H
      have c5b0 := eq_true c5
      have c5b1 : decide (1 + t190.size ≤ 9223372036854775807) = true := decide_eq_true c5
      try have c5b2 : (9223372036854775807 < 1 + t190.size) = False := eq_false (Nat.not_lt.2 c5)
      obtain rfl := Option.some.inj H
      go_enter Tryd.func38, Tryd.ntmps38
      go_wp2_with (first | ((with_reducible refine gate_callee (f := 61) rfl ?_); refine goesL_ (some 6) rfl rfl Tryd.func61 (by kernel_rfl) rfl #[.int .i64 a0] rfl (by (try simp only [List.map_toArray, List.map_cons, List.map_nil]); first | done | rfl | (simp only [List.length_drop, List.length_take]; rfl)) ?_; (with_reducible refine (pannierref01_whole.calls a0 t189 _ A3.out).mono ?_); rintro e w' ⟨rfl, ⟨nd, rfl⟩⟩; refine ⟨_, rfl, ?_⟩) | ((with_reducible refine gate_callee (f := 60) rfl ?_); refine goesL_ (some 7) rfl rfl Tryd.func60 (by kernel_rfl) rfl #[.int .u64 t189] rfl (by (try simp only [List.map_toArray, List.map_cons, List.map_nil]); first | done | rfl | (simp only [List.length_drop, List.length_take]; rfl)) ?_; (with_reducible refine (pannierref01_digits.calls k t189 t190 _ A4.out).mono ?_); rintro e w' ⟨rfl, ⟨nd, rfl⟩⟩; refine ⟨_, rfl, ?_⟩))
      go_ret
      exact ⟨by first | rfl | (simp; done) | (simp [*]; done), by repeat (first | exact Drawn0.refl _ | apply Drawn0.step)⟩
    · rw [if_neg c5] at H
      exact absurd H (by simp)
  · rw [if_neg c2] at H
    have c2b0 : decide (a0 < 0) = false := decide_eq_false c2
    clear c2
    replace H := Option.bind_eq_some_iff.mp H
    obtain ⟨t191, A60, H⟩ := H
    replace H : ((pannierref01_digits.f k t191).bind fun t192 => (some t192)) = some r := H
    have A6 := Aside0.mk A60
    clear A60
    replace H := Option.bind_eq_some_iff.mp H
    obtain ⟨t192, A70, H⟩ := H
    replace H : (some t192) = some r := H
    have A7 := Aside0.mk A70
    clear A70
    obtain rfl := Option.some.inj H
    go_enter Tryd.func38, Tryd.ntmps38
    go_wp2_with (first | ((with_reducible refine gate_callee (f := 61) rfl ?_); refine goesL_ (some 10) rfl rfl Tryd.func61 (by kernel_rfl) rfl #[.int .i64 a0] rfl (by (try simp only [List.map_toArray, List.map_cons, List.map_nil]); first | done | rfl | (simp only [List.length_drop, List.length_take]; rfl)) ?_; (with_reducible refine (pannierref01_whole.calls a0 t191 _ A6.out).mono ?_); rintro e w' ⟨rfl, ⟨nd, rfl⟩⟩; refine ⟨_, rfl, ?_⟩) | ((with_reducible refine gate_callee (f := 60) rfl ?_); refine goesL_ (some 11) rfl rfl Tryd.func60 (by kernel_rfl) rfl #[.int .u64 t191] rfl (by (try simp only [List.map_toArray, List.map_cons, List.map_nil]); first | done | rfl | (simp only [List.length_drop, List.length_take]; rfl)) ?_; (with_reducible refine (pannierref01_digits.calls k t191 t192 _ A7.out).mono ?_); rintro e w' ⟨rfl, ⟨nd, rfl⟩⟩; refine ⟨_, rfl, ?_⟩))
    go_ret
    exact ⟨by first | rfl | (simp; done) | (simp [*]; done), by repeat (first | exact Drawn0.refl _ | apply Drawn0.step)⟩

end Go.Proofs.YtohfidjbnmlfeaaDoor.P

namespace Go.Proofs.YtohfidjbnmlfeaaDoor.P
open Go.RowKit Go.Proofs.YtohfidjbnmlfeaaDoorW.PrintWords Go.Proofs.YtohfidjbnmlfeaaDoorW.PrintLast Go.Proofs.YtohfidjbnmlfeaaDoorW.PrintMore
attribute [local go_sem] max2_int min2_int max_two min_two max_three min_three max_four min_four   -- for this text's walks alone
set_option linter.unusedVariables false
set_option linter.unusedSimpArgs false

/-! ### pannierref01_Parse: function 36 -/
mutual
def pannierref01_Parse.j0 : Nat → ByteArray → Int → Bool → Option (Int × Bool)
  | 0, _, _, _ => none
  | k + 1, x0, x3, x14 => if x14 = true then (pannierref01_Parse.j1 k x0 1) else (pannierref01_Parse.j1 k x0 x3)
def pannierref01_Parse.j1 : Nat → ByteArray → Int → Option (Int × Bool)
  | 0, _, _ => none
  | k + 1, x0, x3 => if (x0.size : Int) = x3 then (pannierref01_Parse.j2 k x0 x3 true) else (pannierref01_Parse.j2 k x0 x3 (decide ((x0.size : Int) > 20)))
def pannierref01_Parse.j2 : Nat → ByteArray → Int → Bool → Option (Int × Bool)
  | 0, _, _, _ => none
  | k + 1, x0, x3, x23 => if x23 = true then (some (0, false)) else (pannierref01_Parse.l0 k x0 x3 0 x3)
def pannierref01_Parse.l0 : Nat → ByteArray → Int → Int → Int → Option (Int × Bool)
  | 0, _, _, _, _ => none
  | k + 1, x0, x3, x4, x5 => if x5 < (x0.size : Int) then (if 0 ≤ x5 then (if (bt x0 x5) < 48 then (some (0, false)) else (if (bt x0 x5) > 57 then (some (0, false)) else (if x4 > 922337203685477580 then (some (0, false)) else (pannierref01_Parse.l0 k x0 x3 (IntKind.u64.wrap ((IntKind.u64.wrap (x4 * 10)) + (((bt x0 x5) - 48) % 256))) (wrap64 (x5 + 1)))))) else (none)) else ((pannierref01_signed.f k x4 (x3 == 1)).bind fun bt199 => (if bt199.2 = true then ((pannierref01_Dec.f k bt199.1).bind fun t202 => (if t202.toList = x0.toList then (some (bt199.1, bt199.2)) else (some (0, false)))) else (some (0, false))))
end
def pannierref01_Parse.f (k : Nat) (a0 : ByteArray) : Option (Int × Bool) := if (a0.size : Int) > 0 then (if 0 < (a0.size : Int) then (pannierref01_Parse.j0 k a0 0 ((bt a0 0) == 45)) else (none)) else (pannierref01_Parse.j0 k a0 0 false)
theorem pannierref01_Parse.mono_l : ∀ k, (∀ y0 y1 y2, LeO (pannierref01_Parse.j0 k y0 y1 y2) (pannierref01_Parse.j0 (k + 1) y0 y1 y2)) ∧ (∀ y0 y1, LeO (pannierref01_Parse.j1 k y0 y1) (pannierref01_Parse.j1 (k + 1) y0 y1)) ∧ (∀ y0 y1 y2, LeO (pannierref01_Parse.j2 k y0 y1 y2) (pannierref01_Parse.j2 (k + 1) y0 y1 y2)) ∧ (∀ y0 y1 y2 y3, LeO (pannierref01_Parse.l0 k y0 y1 y2 y3) (pannierref01_Parse.l0 (k + 1) y0 y1 y2 y3))
  | 0 => ⟨fun _ _ _ r h => by simp [pannierref01_Parse.j0] at h, fun _ _ r h => by simp [pannierref01_Parse.j1] at h, fun _ _ _ r h => by simp [pannierref01_Parse.j2] at h, fun _ _ _ _ r h => by simp [pannierref01_Parse.l0] at h⟩
  | k + 1 => by
    obtain ⟨ih0, ih1, ih2, ih3⟩ := pannierref01_Parse.mono_l k
    refine ⟨?_, ?_, ?_, ?_⟩
    · intro y0 y1 y2
      unfold pannierref01_Parse.j0
      repeat' first
      | (with_reducible exact ih0 _ _ _)
      | (with_reducible exact ih1 _ _)
      | (with_reducible exact ih2 _ _ _)
      | (with_reducible exact ih3 _ _ _ _)
      | (with_reducible exact pannierref01_Dec.mono _ _)
      | (with_reducible exact pannierref01_signed.mono _ _ _)
      | (with_reducible exact LeO.refl _)
      | (with_reducible exact LeO.none _)
      | (with_reducible refine LeO.ite ?_ ?_)
      | (with_reducible refine LeO.bind ?_ (fun _ => ?_))
      | exact ih0 _ _ _
      | exact ih1 _ _
      | exact ih2 _ _ _
      | exact ih3 _ _ _ _
      | exact pannierref01_Dec.mono _ _
      | exact pannierref01_signed.mono _ _ _
      | exact LeO.none _
      | refine LeO.ite ?_ ?_
      | refine LeO.bind ?_ (fun _ => ?_)
    · intro y0 y1
      unfold pannierref01_Parse.j1
      repeat' first
      | (with_reducible exact ih0 _ _ _)
      | (with_reducible exact ih1 _ _)
      | (with_reducible exact ih2 _ _ _)
      | (with_reducible exact ih3 _ _ _ _)
      | (with_reducible exact pannierref01_Dec.mono _ _)
      | (with_reducible exact pannierref01_signed.mono _ _ _)
      | (with_reducible exact LeO.refl _)
      | (with_reducible exact LeO.none _)
      | (with_reducible refine LeO.ite ?_ ?_)
      | (with_reducible refine LeO.bind ?_ (fun _ => ?_))
      | exact ih0 _ _ _
      | exact ih1 _ _
      | exact ih2 _ _ _
      | exact ih3 _ _ _ _
      | exact pannierref01_Dec.mono _ _
      | exact pannierref01_signed.mono _ _ _
      | exact LeO.none _
      | refine LeO.ite ?_ ?_
      | refine LeO.bind ?_ (fun _ => ?_)
    · intro y0 y1 y2
      unfold pannierref01_Parse.j2
      repeat' first
      | (with_reducible exact ih0 _ _ _)
      | (with_reducible exact ih1 _ _)
      | (with_reducible exact ih2 _ _ _)
      | (with_reducible exact ih3 _ _ _ _)
      | (with_reducible exact pannierref01_Dec.mono _ _)
      | (with_reducible exact pannierref01_signed.mono _ _ _)
      | (with_reducible exact LeO.refl _)
      | (with_reducible exact LeO.none _)
      | (with_reducible refine LeO.ite ?_ ?_)
      | (with_reducible refine LeO.bind ?_ (fun _ => ?_))
      | exact ih0 _ _ _
      | exact ih1 _ _
      | exact ih2 _ _ _
      | exact ih3 _ _ _ _
      | exact pannierref01_Dec.mono _ _
      | exact pannierref01_signed.mono _ _ _
      | exact LeO.none _
      | refine LeO.ite ?_ ?_
      | refine LeO.bind ?_ (fun _ => ?_)
    · intro y0 y1 y2 y3
      unfold pannierref01_Parse.l0
      repeat' first
      | (with_reducible exact ih0 _ _ _)
      | (with_reducible exact ih1 _ _)
      | (with_reducible exact ih2 _ _ _)
      | (with_reducible exact ih3 _ _ _ _)
      | (with_reducible exact pannierref01_Dec.mono _ _)
      | (with_reducible exact pannierref01_signed.mono _ _ _)
      | (with_reducible exact LeO.refl _)
      | (with_reducible exact LeO.none _)
      | (with_reducible refine LeO.ite ?_ ?_)
      | (with_reducible refine LeO.bind ?_ (fun _ => ?_))
      | exact ih0 _ _ _
      | exact ih1 _ _
      | exact ih2 _ _ _
      | exact ih3 _ _ _ _
      | exact pannierref01_Dec.mono _ _
      | exact pannierref01_signed.mono _ _ _
      | exact LeO.none _
      | refine LeO.ite ?_ ?_
      | refine LeO.bind ?_ (fun _ => ?_)
theorem pannierref01_Parse.mono : ∀ a0 k, LeO (pannierref01_Parse.f k a0) (pannierref01_Parse.f (k + 1) a0) := by
  intro a0 k
  obtain ⟨ih0, ih1, ih2, ih3⟩ := pannierref01_Parse.mono_l k
  unfold pannierref01_Parse.f
  repeat' first
      | (with_reducible exact ih0 _ _ _)
      | (with_reducible exact ih1 _ _)
      | (with_reducible exact ih2 _ _ _)
      | (with_reducible exact ih3 _ _ _ _)
      | (with_reducible exact pannierref01_Dec.mono _ _)
      | (with_reducible exact pannierref01_signed.mono _ _ _)
      | (with_reducible exact LeO.refl _)
      | (with_reducible exact LeO.none _)
      | (with_reducible refine LeO.ite ?_ ?_)
      | (with_reducible refine LeO.bind ?_ (fun _ => ?_))
      | exact ih0 _ _ _
      | exact ih1 _ _
      | exact ih2 _ _ _
      | exact ih3 _ _ _ _
      | exact pannierref01_Dec.mono _ _
      | exact pannierref01_signed.mono _ _ _
      | exact LeO.none _
      | refine LeO.ite ?_ ?_
      | refine LeO.bind ?_ (fun _ => ?_)
set_option maxHeartbeats 8000000 in
set_option maxRecDepth 100000 in
theorem pannierref01_Parse.calls (k : Nat) (a0 : ByteArray) (r1 : Int) (r2 : Bool) (w : World) (h : pannierref01_Parse.f k a0 = some (r1, r2)) :
    Calls Tryd.prog 36 #[.string a0] w fun e w' => e = .returned (.agg #[.int .i64 r1, .bool r2]) ∧ Below w.heap.size w w' := by
  have hu57 := Tryd.underlying57
  have HB := Aside0.mk (Below.refl w.heap.size w)
  have H : (if (a0.size : Int) > 0 then (if 0 < (a0.size : Int) then (pannierref01_Parse.j0 k a0 0 ((bt a0 0) == 45)) else (none)) else (pannierref01_Parse.j0 k a0 0 false)) = some (r1, r2) := h
  clear h
  have HC2 := Aside0.mk H
  clear H
  go_enter Tryd.func36, Tryd.ntmps36
  go_upto_region 2 with (first | ((with_reducible refine gate_dst (N := 2) rfl ?_); (try (refine gate_guard (by rfl) ?_; dsimp only)); refine box_event ?hg (N := 2) ?hd (cs := #[.int .i64 0, .bool false]) (t := 57) ?hr ?_; (case hd => rfl); (case hg => rfl); (case hr => first | (go_simp; done) | (go_simp; rfl)); intro gb198 hg w3 hbox hb; have n0_ := Aside0.mk (below_step (by repeat (first | (with_reducible first | exact HB.out | apply below_alloc | apply pw_below_drewN | apply below_drew1) | exact HB.out)) hb); have n1_ := Aside0.mk (hbox); have n2_ := Aside0.mk ((by rw [hg]; exact (below_size (by repeat (first | (with_reducible first | exact HB.out | apply below_alloc | apply pw_below_drewN | apply below_drew1) | exact HB.out))) : w.heap.size ≤ gb198)); have n3_ := Aside0.mk ((by rw [hg]; exact (below_size (by repeat (first | (with_reducible first | exact HB.out | apply below_alloc | apply pw_below_drewN | apply below_drew1) | exact HB.out))) : w.heap.size ≤ gb198)); clear HB; have HB := n0_; have BK198 := n1_; have GW198 := n2_; have GE198 := n3_; clear n0_ n1_ n2_ n3_; clear hb hbox hg))
  (try simp only [Act.put, List.setIfInBounds_toArray, List.set_cons_zero, List.set_cons_succ])
  go_cut [14] (fun v14 wc => ∃ (kq : Nat) (x14_1 : Bool), v14 = .bool x14_1 ∧ Aside0 (pannierref01_Parse.j0 kq a0 0 x14_1 = some (r1, r2)) ∧ Aside0 (kq ≤ k) ∧ Aside0 (wc.heap[gb198]? = some (.cells #[.int .i64 0, .bool false] 57 (0, 0))) ∧ Aside0 (Below w.heap.size w wc))
  case first =>
    have H := HC2.out
    clear HC2
    by_cases c4 : (a0.size : Int) > 0
    · rw [if_pos c4] at H
      have c4b0 : decide (0 < (a0.size : Int)) = true := decide_eq_true c4
      have c4b1 : decide (0 < a0.size) = true := decide_eq_true (by omega)
      clear c4
      (first | rw [c4b0] | (simp only [i64_w, i32_w]; rw [c4b0]) | skip)
      by_cases c5 : 0 < (a0.size : Int)
      · rw [if_pos c5] at H
        have c5b0 : decide (0 < (a0.size : Int)) = true := decide_eq_true c5
        have c5b1 : decide (0 < a0.size) = true := decide_eq_true (by omega)
        clear c5
        have H' := Aside0.mk H
        clear H
        have p6 : 0 ≤ (0 : Int) := (by omega)
        have q6 : 0 < a0.size := (by have : (0 : Int) < (a0.size : Int) := of_decide_eq_true (by first | (with_reducible assumption) | assumption); omega)
        have hx6 : ∀ h : 0 < a0.size, ((a0[0]'h).toNat : Int) = bt a0 0 := bt_at a0 0
        clear p6
        have qi6 : (0 < (a0.size : Int)) = True := eq_true (of_decide_eq_true (by first | (with_reducible assumption) | assumption))
        replace q6 := eq_true q6
        go_wp2
        go_meet
        case rel => exact ⟨_, (((bt a0 0) == 45)), (by first | rfl | (simp; done) | (simp [*]; done)), H', ⟨by first | omega | exact Nat.le_refl _⟩, ⟨by (with_reducible repeat (first | refine blk_drewN ?_ _ | refine blk_drew ?_ | refine blk_alloc ?_ _)); exact BK198.out⟩, ⟨by repeat (first | (with_reducible first | exact HB.out | apply below_alloc | apply pw_below_drewN | apply below_drew1 | refine below_set ?_ GE198.out) | exact HB.out)⟩⟩
      · rw [if_neg c5] at H
        exact absurd H (by simp)
    · rw [if_neg c4] at H
      have c4b0 : decide (0 < (a0.size : Int)) = false := decide_eq_false c4
      have c4b1 : decide (0 < a0.size) = false := decide_eq_false (by omega)
      clear c4
      (first | rw [c4b0] | (simp only [i64_w, i32_w]; rw [c4b0]) | skip)
      have H' := Aside0.mk H
      clear H
      go_wp2
      go_meet
      case rel => exact ⟨_, (false), (by first | rfl | (simp; done) | (simp [*]; done)), H', ⟨by first | omega | exact Nat.le_refl _⟩, ⟨by (with_reducible repeat (first | refine blk_drewN ?_ _ | refine blk_drew ?_ | refine blk_alloc ?_ _)); exact BK198.out⟩, ⟨by repeat (first | (with_reducible first | exact HB.out | apply below_alloc | apply pw_below_drewN | apply below_drew1 | refine below_set ?_ GE198.out) | exact HB.out)⟩⟩
  case rest =>
    clear HC2
    try clear p2
    try clear c3
    try clear c4
    try clear c4b0
    try clear c4b1
    try clear c5
    try clear c5b0
    try clear c5b1
    try clear p6
    try clear q6
    try clear hx6
    try clear qi6
    try clear p6
    try clear q6
    obtain ⟨kq, x14_1, rfl, HA, HJ1, BK198, HB⟩ := hcut
    cases kq with
    | zero => exact absurd HA.out (by simp [pannierref01_Parse.j0])
    | succ kj1 =>
      have H := HA.out
      clear HA
      simp only [pannierref01_Parse.j0] at H
      have HC7 := Aside0.mk H
      clear H
      go_upto_if 14 with (fail)
      go_cut [3] (fun v3 wc => ∃ (kq : Nat) (x3_6 : Int), v3 = .int .i64 x3_6 ∧ Aside0 (pannierref01_Parse.j1 kq a0 x3_6 = some (r1, r2)) ∧ Aside0 (kq ≤ kj1) ∧ Aside0 (wc.heap[gb198]? = some (.cells #[.int .i64 0, .bool false] 57 (0, 0))) ∧ Aside0 (Below w.heap.size w wc))
      case first =>
        have H := HC7.out
        clear HC7
        by_cases c8 : x14_1 = true
        · subst c8
          have H1 : (pannierref01_Parse.j1 kj1 a0 1) = some (r1, r2) := by rw [if_pos rfl] at H; exact H
          clear H
          have H := H1
          clear H1
          have H' := Aside0.mk H
          clear H
          go_wp2
          go_meet
          case rel => exact ⟨_, (1), (by first | rfl | (simp; done) | (simp [*]; done)), H', ⟨by have := HJ1.out; first | omega | exact Nat.le_refl _⟩, ⟨by (with_reducible repeat (first | refine blk_drewN ?_ _ | refine blk_drew ?_ | refine blk_alloc ?_ _)); exact BK198.out⟩, ⟨by repeat (first | (with_reducible first | exact HB.out | apply below_alloc | apply pw_below_drewN | apply below_drew1 | refine below_set ?_ GE198.out) | exact HB.out)⟩⟩
        · replace c8 := Bool.eq_false_iff.mpr c8
          subst c8
          have H1 : (pannierref01_Parse.j1 kj1 a0 0) = some (r1, r2) := by rw [if_neg (show ¬ (false = true) by decide)] at H; exact H
          clear H
          have H := H1
          clear H1
          have H' := Aside0.mk H
          clear H
          go_wp2
          go_meet
          case rel => exact ⟨_, (0), (by first | rfl | (simp; done) | (simp [*]; done)), H', ⟨by have := HJ1.out; first | omega | exact Nat.le_refl _⟩, ⟨by (with_reducible repeat (first | refine blk_drewN ?_ _ | refine blk_drew ?_ | refine blk_alloc ?_ _)); exact BK198.out⟩, ⟨by repeat (first | (with_reducible first | exact HB.out | apply below_alloc | apply pw_below_drewN | apply below_drew1 | refine below_set ?_ GE198.out) | exact HB.out)⟩⟩
      case rest =>
        clear HC7
        try clear p2
        try clear c3
        try clear c4
        try clear c4b0
        try clear c4b1
        try clear c5
        try clear c5b0
        try clear c5b1
        try clear p6
        try clear q6
        try clear hx6
        try clear qi6
        try clear c8
        try clear p2
        try clear p6
        try clear q6
        obtain ⟨kq, x3_6, rfl, HA, HJ6, BK198, HB⟩ := hcut
        cases kq with
        | zero => exact absurd HA.out (by simp [pannierref01_Parse.j1])
        | succ kj6 =>
          have H := HA.out
          clear HA
          simp only [pannierref01_Parse.j1] at H
          have HC9 := Aside0.mk H
          clear H
          go_upto_region 4 with (fail)
          go_cut [23] (fun v23 wc => ∃ (kq : Nat) (x23_8 : Bool), v23 = .bool x23_8 ∧ Aside0 (pannierref01_Parse.j2 kq a0 x3_6 x23_8 = some (r1, r2)) ∧ Aside0 (kq ≤ kj6) ∧ Aside0 (wc.heap[gb198]? = some (.cells #[.int .i64 0, .bool false] 57 (0, 0))) ∧ Aside0 (Below w.heap.size w wc))
          case first =>
            have H := HC9.out
            clear HC9
            by_cases c10 : (a0.size : Int) = x3_6
            · rw [if_pos c10] at H
              have c10b0 : ((a0.size : Int) == x3_6) = true := beq_iff_eq.mpr c10
              have c10b1 : ((a0.size : Int) != x3_6) = false := bne_eq_false_iff_eq.mpr c10
              clear c10
              (first | rw [c10b0] | (simp only [i64_w, i32_w]; rw [c10b0]) | skip)
              have H' := Aside0.mk H
              clear H
              go_wp2
              go_meet
              case rel => exact ⟨_, (true), (by first | rfl | (simp; done) | (simp [*]; done)), H', ⟨by have := HJ1.out; have := HJ6.out; first | omega | exact Nat.le_refl _⟩, ⟨by (with_reducible repeat (first | refine blk_drewN ?_ _ | refine blk_drew ?_ | refine blk_alloc ?_ _)); exact BK198.out⟩, ⟨by repeat (first | (with_reducible first | exact HB.out | apply below_alloc | apply pw_below_drewN | apply below_drew1 | refine below_set ?_ GE198.out) | exact HB.out)⟩⟩
            · rw [if_neg c10] at H
              have c10b0 : ((a0.size : Int) == x3_6) = false := beq_eq_false_iff_ne.mpr c10
              have c10b1 : ((a0.size : Int) != x3_6) = true := bne_iff_ne.mpr c10
              (first | rw [c10b0] | (simp only [i64_w, i32_w]; rw [c10b0]) | skip)
              have H' := Aside0.mk H
              clear H
              go_wp2
              go_meet
              case rel => exact ⟨_, (decide ((a0.size : Int) > 20)), (by first | rfl | (simp; done) | (simp [*]; done)), H', ⟨by have := HJ1.out; have := HJ6.out; first | omega | exact Nat.le_refl _⟩, ⟨by (with_reducible repeat (first | refine blk_drewN ?_ _ | refine blk_drew ?_ | refine blk_alloc ?_ _)); exact BK198.out⟩, ⟨by repeat (first | (with_reducible first | exact HB.out | apply below_alloc | apply pw_below_drewN | apply below_drew1 | refine below_set ?_ GE198.out) | exact HB.out)⟩⟩
          case rest =>
            clear HC9
            try clear c1
            try clear p2
            try clear c3
            try clear c4
            try clear c4b0
            try clear c4b1
            try clear c5
            try clear c5b0
            try clear c5b1
            try clear p6
            try clear q6
            try clear hx6
            try clear qi6
            try clear c8
            try clear c10
            try clear c10b0
            try clear c10b1
            try clear p2
            try clear p6
            try clear q6
            obtain ⟨kq, x23_8, rfl, HA, HJ8, BK198, HB⟩ := hcut
            cases kq with
            | zero => exact absurd HA.out (by simp [pannierref01_Parse.j2])
            | succ kj8 =>
              have H := HA.out
              clear HA
              simp only [pannierref01_Parse.j2] at H
              by_cases c11 : x23_8 = true
              · subst c11
                have H1 : (some (0, false)) = some (r1, r2) := by rw [if_pos rfl] at H; exact H
                clear H
                have H := H1
                clear H1
                simp only [Option.some.injEq, Prod.mk.injEq] at H
                obtain ⟨rfl, rfl⟩ := H
                have hcz12_0 : wc.cell? ⟨gb198, 0, none⟩ = some (.int .i64 0) := (blk_cell BK198.out 0).trans rfl
                have hcz12_1 : wc.cell? ⟨gb198, 1, none⟩ = some (.bool false) := (blk_cell BK198.out 1).trans rfl
                have hfz12_0 := blk_frozen BK198.out 0
                have hfz12_1 := blk_frozen BK198.out 1
                go_wp2
                refine bodyPost_ret (results_cell_row rfl _ _ gb198 57 #[.int .i64 0, .bool false] (0, 0) _ rfl (by (with_reducible repeat (first | refine blk_drewN ?_ _ | refine blk_drew ?_ | refine blk_alloc ?_ _)); refine blk_put (cs := #[.int .i64 0, .bool false]) ?_ 1 _ rfl; (with_reducible repeat (first | refine blk_drewN ?_ _ | refine blk_drew ?_ | refine blk_alloc ?_ _)); refine blk_put (cs := #[.int .i64 0, .bool false]) ?_ 0 _ rfl; (with_reducible repeat (first | refine blk_drewN ?_ _ | refine blk_drew ?_ | refine blk_alloc ?_ _)); exact BK198.out) Tryd.underlying57 rfl (by kernel_rfl)) rfl ?_
                exact ⟨by first | rfl | (simp [errW_none, errW_some] <;> rfl) | (simp [*, errW_none, errW_some] <;> rfl), by repeat (first | (with_reducible first | exact HB.out | apply below_alloc | apply pw_below_drewN | apply below_drew1 | refine below_set ?_ GE198.out) | exact HB.out)⟩
              · replace c11 := Bool.eq_false_iff.mpr c11
                subst c11
                have H1 : (pannierref01_Parse.l0 kj8 a0 x3_6 0 x3_6) = some (r1, r2) := by rw [if_neg (show ¬ (false = true) by decide)] at H; exact H
                clear H
                have H := H1
                clear H1
                have H' := Aside0.mk H
                clear H
                go_wp2
                go_loopg [4, 5] kj8 (fun kq v4 v5 w' => ∃ (x4_4 : Int) (x5_4 : Int) (x199000_4 : Int) (x199001_4 : Bool), v4 = .int .u64 x4_4 ∧ v5 = .int .i64 x5_4 ∧ Aside0 (pannierref01_Parse.l0 kq a0 x3_6 x4_4 x5_4 = some (r1, r2)) ∧ Aside0 (kq ≤ kj8) ∧ Aside0 (w'.heap[gb198]? = some (.cells #[.int .i64 x199000_4, .bool x199001_4] 57 (0, 0))) ∧ Aside0 (Below w.heap.size w w'))
                case atStart => exact ⟨(0), (x3_6), (0), (false), (by first | rfl | (simp; done) | (simp [*]; done)), (by first | rfl | (simp; done) | (simp [*]; done)), H', ⟨Nat.le_refl _⟩, ⟨by (with_reducible repeat (first | refine blk_drewN ?_ _ | refine blk_drew ?_ | refine blk_alloc ?_ _)); exact BK198.out⟩, ⟨by repeat (first | (with_reducible first | exact HB.out | apply below_alloc | apply pw_below_drewN | apply below_drew1 | refine below_set ?_ GE198.out) | exact HB.out)⟩⟩
                case round =>
                  clear H'
                  try clear c1
                  try clear p2
                  try clear c3
                  try clear c4
                  try clear c4b0
                  try clear c4b1
                  try clear c5
                  try clear c5b0
                  try clear c5b1
                  try clear p6
                  try clear q6
                  try clear hx6
                  try clear qi6
                  try clear c8
                  try clear c10
                  try clear c10b0
                  try clear c10b1
                  try clear c11
                  try clear hcz12_0
                  try clear hcz12_1
                  try clear hfz12_0
                  try clear hfz12_1
                  try clear p2
                  try clear p6
                  try clear q6
                  obtain ⟨x4_4, x5_4, x199000_4, x199001_4, rfl, rfl, HA, HK4, BK198, HB⟩ := hrel
                  cases gk with
                  | zero => exact absurd HA.out (by simp [pannierref01_Parse.l0])
                  | succ k4 =>
                    have H := HA.out
                    clear HA
                    simp only [pannierref01_Parse.l0] at H
                    by_cases c13 : x5_4 < (a0.size : Int)
                    · rw [if_pos c13] at H
                      have c13b0 : decide (x5_4 < (a0.size : Int)) = true := decide_eq_true c13
                      clear c13
                      by_cases c14 : 0 ≤ x5_4
                      · rw [if_pos c14] at H
                        have c14b0 : decide (0 ≤ x5_4) = true := decide_eq_true c14
                        clear c14
                        by_cases c16 : (bt a0 x5_4) < 48
                        · rw [if_pos c16] at H
                          have c16b0 : decide ((bt a0 x5_4) < 48) = true := decide_eq_true c16
                          clear c16
                          simp only [Option.some.injEq, Prod.mk.injEq] at H
                          obtain ⟨rfl, rfl⟩ := H
                          have p15 : 0 ≤ (x5_4 : Int) := of_decide_eq_true (by first | (with_reducible assumption) | assumption)
                          have q15 : x5_4 < (a0.size : Int) := of_decide_eq_true (by first | (with_reducible assumption) | assumption)
                          have hx15 := bt_at a0 x5_4
                          replace p15 := eq_true p15
                          replace q15 := eq_true q15
                          have hcz17_0 : wr.cell? ⟨gb198, 0, none⟩ = some (.int .i64 x199000_4) := (blk_cell BK198.out 0).trans rfl
                          have hcz17_1 : wr.cell? ⟨gb198, 1, none⟩ = some (.bool x199001_4) := (blk_cell BK198.out 1).trans rfl
                          have hfz17_0 := blk_frozen BK198.out 0
                          have hfz17_1 := blk_frozen BK198.out 1
                          go_wp2
                          refine bodyPost_ret (results_cell_row rfl _ _ gb198 57 #[.int .i64 0, .bool false] (0, 0) _ rfl (by (with_reducible repeat (first | refine blk_drewN ?_ _ | refine blk_drew ?_ | refine blk_alloc ?_ _)); refine blk_put (cs := #[.int .i64 0, .bool x199001_4]) ?_ 1 _ rfl; (with_reducible repeat (first | refine blk_drewN ?_ _ | refine blk_drew ?_ | refine blk_alloc ?_ _)); refine blk_put (cs := #[.int .i64 x199000_4, .bool x199001_4]) ?_ 0 _ rfl; (with_reducible repeat (first | refine blk_drewN ?_ _ | refine blk_drew ?_ | refine blk_alloc ?_ _)); exact BK198.out) Tryd.underlying57 rfl (by kernel_rfl)) rfl ?_
                          exact ⟨by first | rfl | (simp [errW_none, errW_some] <;> rfl) | (simp [*, errW_none, errW_some] <;> rfl), by repeat (first | (with_reducible first | exact HB.out | apply below_alloc | apply pw_below_drewN | apply below_drew1 | refine below_set ?_ GE198.out) | exact HB.out)⟩
                        · rw [if_neg c16] at H
                          have c16b0 : decide ((bt a0 x5_4) < 48) = false := decide_eq_false c16
                          clear c16
                          by_cases c19 : (bt a0 x5_4) > 57
                          · rw [if_pos c19] at H
                            have c19b0 : decide (57 < (bt a0 x5_4)) = true := decide_eq_true c19
                            clear c19
                            simp only [Option.some.injEq, Prod.mk.injEq] at H
                            obtain ⟨rfl, rfl⟩ := H
                            have p15 : 0 ≤ (x5_4 : Int) := of_decide_eq_true (by first | (with_reducible assumption) | assumption)
                            have q15 : x5_4 < (a0.size : Int) := of_decide_eq_true (by first | (with_reducible assumption) | assumption)
                            have hx15 := bt_at a0 x5_4
                            replace p15 := eq_true p15
                            replace q15 := eq_true q15
                            have p18 : 0 ≤ (x5_4 : Int) := of_decide_eq_true (by first | (with_reducible assumption) | assumption)
                            have q18 : x5_4 < (a0.size : Int) := of_decide_eq_true (by first | (with_reducible assumption) | assumption)
                            have hx18 := bt_at a0 x5_4
                            replace p18 := eq_true p18
                            replace q18 := eq_true q18
                            have hcz20_0 : wr.cell? ⟨gb198, 0, none⟩ = some (.int .i64 x199000_4) := (blk_cell BK198.out 0).trans rfl
                            have hcz20_1 : wr.cell? ⟨gb198, 1, none⟩ = some (.bool x199001_4) := (blk_cell BK198.out 1).trans rfl
                            have hfz20_0 := blk_frozen BK198.out 0
                            have hfz20_1 := blk_frozen BK198.out 1
                            go_wp2
                            refine bodyPost_ret (results_cell_row rfl _ _ gb198 57 #[.int .i64 0, .bool false] (0, 0) _ rfl (by (with_reducible repeat (first | refine blk_drewN ?_ _ | refine blk_drew ?_ | refine blk_alloc ?_ _)); refine blk_put (cs := #[.int .i64 0, .bool x199001_4]) ?_ 1 _ rfl; (with_reducible repeat (first | refine blk_drewN ?_ _ | refine blk_drew ?_ | refine blk_alloc ?_ _)); refine blk_put (cs := #[.int .i64 x199000_4, .bool x199001_4]) ?_ 0 _ rfl; (with_reducible repeat (first | refine blk_drewN ?_ _ | refine blk_drew ?_ | refine blk_alloc ?_ _)); exact BK198.out) Tryd.underlying57 rfl (by kernel_rfl)) rfl ?_
                            exact ⟨by first | rfl | (simp [errW_none, errW_some] <;> rfl) | (simp [*, errW_none, errW_some] <;> rfl), by repeat (first | (with_reducible first | exact HB.out | apply below_alloc | apply pw_below_drewN | apply below_drew1 | refine below_set ?_ GE198.out) | exact HB.out)⟩
                          · rw [if_neg c19] at H
                            have c19b0 : decide (57 < (bt a0 x5_4)) = false := decide_eq_false c19
                            clear c19
                            by_cases c21 : x4_4 > 922337203685477580
                            · rw [if_pos c21] at H
                              have c21b0 : decide (922337203685477580 < x4_4) = true := decide_eq_true c21
                              clear c21
                              simp only [Option.some.injEq, Prod.mk.injEq] at H
                              obtain ⟨rfl, rfl⟩ := H
                              have p15 : 0 ≤ (x5_4 : Int) := of_decide_eq_true (by first | (with_reducible assumption) | assumption)
                              have q15 : x5_4 < (a0.size : Int) := of_decide_eq_true (by first | (with_reducible assumption) | assumption)
                              have hx15 := bt_at a0 x5_4
                              replace p15 := eq_true p15
                              replace q15 := eq_true q15
                              have p18 : 0 ≤ (x5_4 : Int) := of_decide_eq_true (by first | (with_reducible assumption) | assumption)
                              have q18 : x5_4 < (a0.size : Int) := of_decide_eq_true (by first | (with_reducible assumption) | assumption)
                              have hx18 := bt_at a0 x5_4
                              replace p18 := eq_true p18
                              replace q18 := eq_true q18
                              have hcz22_0 : wr.cell? ⟨gb198, 0, none⟩ = some (.int .i64 x199000_4) := (blk_cell BK198.out 0).trans rfl
                              have hcz22_1 : wr.cell? ⟨gb198, 1, none⟩ = some (.bool x199001_4) := (blk_cell BK198.out 1).trans rfl
                              have hfz22_0 := blk_frozen BK198.out 0
                              have hfz22_1 := blk_frozen BK198.out 1
                              go_wp2
                              refine bodyPost_ret (results_cell_row rfl _ _ gb198 57 #[.int .i64 0, .bool false] (0, 0) _ rfl (by (with_reducible repeat (first | refine blk_drewN ?_ _ | refine blk_drew ?_ | refine blk_alloc ?_ _)); refine blk_put (cs := #[.int .i64 0, .bool x199001_4]) ?_ 1 _ rfl; (with_reducible repeat (first | refine blk_drewN ?_ _ | refine blk_drew ?_ | refine blk_alloc ?_ _)); refine blk_put (cs := #[.int .i64 x199000_4, .bool x199001_4]) ?_ 0 _ rfl; (with_reducible repeat (first | refine blk_drewN ?_ _ | refine blk_drew ?_ | refine blk_alloc ?_ _)); exact BK198.out) Tryd.underlying57 rfl (by kernel_rfl)) rfl ?_
                              exact ⟨by first | rfl | (simp [errW_none, errW_some] <;> rfl) | (simp [*, errW_none, errW_some] <;> rfl), by repeat (first | (with_reducible first | exact HB.out | apply below_alloc | apply pw_below_drewN | apply below_drew1 | refine below_set ?_ GE198.out) | exact HB.out)⟩
                            · rw [if_neg c21] at H
                              have c21b0 : decide (922337203685477580 < x4_4) = false := decide_eq_false c21
                              clear c21
                              have H' := Aside0.mk H
                              clear H
                              have p15 : 0 ≤ (x5_4 : Int) := of_decide_eq_true (by first | (with_reducible assumption) | assumption)
                              have q15 : x5_4 < (a0.size : Int) := of_decide_eq_true (by first | (with_reducible assumption) | assumption)
                              have hx15 := bt_at a0 x5_4
                              replace p15 := eq_true p15
                              replace q15 := eq_true q15
                              have p18 : 0 ≤ (x5_4 : Int) := of_decide_eq_true (by first | (with_reducible assumption) | assumption)
                              have q18 : x5_4 < (a0.size : Int) := of_decide_eq_true (by first | (with_reducible assumption) | assumption)
                              have hx18 := bt_at a0 x5_4
                              replace p18 := eq_true p18
                              replace q18 := eq_true q18
                              have p23 : 0 ≤ (x5_4 : Int) := of_decide_eq_true (by first | (with_reducible assumption) | assumption)
                              have q23 : x5_4 < (a0.size : Int) := of_decide_eq_true (by first | (with_reducible assumption) | assumption)
                              have hx23 := bt_at a0 x5_4
                              replace p23 := eq_true p23
                              replace q23 := eq_true q23
                              go_wp2
                              go_roundg k4
                              case measure => have := HJ1.out; have := HJ6.out; have := HJ8.out; have := HK4.out; omega
                              case rel => exact ⟨(IntKind.u64.wrap ((IntKind.u64.wrap (x4_4 * 10)) + (((bt a0 x5_4) - 48) % 256))), (wrap64 (x5_4 + 1)), (x199000_4), (x199001_4), (by first | rfl | (simp; done) | (simp [*]; done)), (by first | rfl | (simp; done) | (simp [*]; done)), H', ⟨by have := HJ1.out; have := HJ6.out; have := HJ8.out; have := HK4.out; omega⟩, ⟨by (with_reducible repeat (first | refine blk_drewN ?_ _ | refine blk_drew ?_ | refine blk_alloc ?_ _)); exact BK198.out⟩, ⟨by repeat (first | (with_reducible first | exact HB.out | apply below_alloc | apply pw_below_drewN | apply below_drew1 | refine below_set ?_ GE198.out) | exact HB.out)⟩⟩
                      · rw [if_neg c14] at H
                        exact absurd H (by simp)
                    · rw [if_neg c13] at H
                      have c13b0 : decide (x5_4 < (a0.size : Int)) = false := decide_eq_false c13
                      clear c13
                      replace H := Option.bind_eq_some_iff.mp H
                      obtain ⟨⟨t199, t200⟩, A240, H⟩ := H
                      replace H : (if t200 = true then ((pannierref01_Dec.f k4 t199).bind fun t202 => (if t202.toList = a0.toList then (some (t199, t200)) else (some (0, false)))) else (some (0, false))) = some (r1, r2) := H
                      have A24 := Aside0.mk A240
                      clear A240
                      by_cases c25 : t200 = true
                      · subst c25
                        have H1 : ((pannierref01_Dec.f k4 t199).bind fun t202 => (if t202.toList = a0.toList then (some (t199, true)) else (some (0, false)))) = some (r1, r2) := by rw [if_pos rfl] at H; exact H
                        clear H
                        have H := H1
                        clear H1
                        replace H := Option.bind_eq_some_iff.mp H
                        obtain ⟨t202, A260, H⟩ := H
                        replace H : (if t202.toList = a0.toList then (some (t199, true)) else (some (0, false))) = some (r1, r2) := H
                        have A26 := Aside0.mk A260
                        clear A260
                        by_cases c27 : t202.toList = a0.toList
                        · rw [if_pos c27] at H
                          have c27b0 : (t202.toList == a0.toList) = true := beq_iff_eq.mpr c27
                          have c27b1 : (t202.toList != a0.toList) = false := bne_eq_false_iff_eq.mpr c27
                          clear c27
                          simp only [Option.some.injEq, Prod.mk.injEq] at H
                          obtain ⟨rfl, rfl⟩ := H
                          go_wp2_with (first | ((with_reducible refine gate_callee (f := 58) rfl ?_); refine goesL_ (some 58) rfl rfl Tryd.func58 (by kernel_rfl) rfl #[.int .u64 x4_4, .bool (x3_6 == 1)] rfl (by (try simp only [List.map_toArray, List.map_cons, List.map_nil]); first | done | rfl | (simp only [List.length_drop, List.length_take]; rfl)) ?_; (with_reducible refine (pannierref01_signed.calls k4 x4_4 (x3_6 == 1) t199 true _ A24.out).mono ?_); rintro e w28 ⟨rfl, hb⟩; refine ⟨_, rfl, ?_⟩; have n0_ := Aside0.mk (blk_below (g := gb198) (o := .cells #[.int .i64 x199000_4, .bool x199001_4] 57 (0, 0)) (by (with_reducible repeat (first | refine blk_drewN ?_ _ | refine blk_drew ?_ | refine blk_alloc ?_ _)); exact BK198.out) hb); have n1_ := Aside0.mk (below_step (by repeat (first | (with_reducible first | exact HB.out | apply below_alloc | apply pw_below_drewN | apply below_drew1 | refine below_set ?_ GE198.out) | exact HB.out)) hb); clear BK198; clear HB; have BK198 := n0_; have HB := n1_; clear n0_ n1_; (try clear hb); (try clear hb2); (try clear hk); (try clear hi)) | ((with_reducible refine gate_dst (N := 6) rfl ?_); (try (refine gate_guard (by rfl) ?_; dsimp only)); refine box_event ?hg (N := 6) ?hd (cs := #[.int .i64 0, .bool false]) (t := 57) ?hr ?_; (case hd => rfl); (case hg => rfl); (case hr => first | (go_simp; done) | (go_simp; rfl)); intro gb201 hg w29 hbox hb; have n0_ := Aside0.mk (blk_below (g := gb198) (o := .cells #[.int .i64 x199000_4, .bool x199001_4] 57 (0, 0)) (by (with_reducible repeat (first | refine blk_drewN ?_ _ | refine blk_drew ?_ | refine blk_alloc ?_ _)); exact BK198.out) hb); have n1_ := Aside0.mk (below_step (by repeat (first | (with_reducible first | exact HB.out | apply below_alloc | apply pw_below_drewN | apply below_drew1 | refine below_set ?_ GE198.out) | exact HB.out)) hb); have n2_ := Aside0.mk (hbox); have n3_ := Aside0.mk ((by rw [hg]; exact (below_size (by repeat (first | (with_reducible first | exact HB.out | apply below_alloc | apply pw_below_drewN | apply below_drew1 | refine below_set ?_ GE198.out) | exact HB.out))) : w.heap.size ≤ gb201)); have n4_ := Aside0.mk ((by rw [hg]; exact (below_size (by repeat (first | (with_reducible first | exact HB.out | apply below_alloc | apply pw_below_drewN | apply below_drew1 | refine below_set ?_ GE198.out) | exact HB.out))) : w.heap.size ≤ gb201)); have n5_ := Aside0.mk ((by rw [hg]; exact Nat.ne_of_lt (blk_lt (g := gb198) (o := .cells #[.int .i64 x199000_4, .bool x199001_4] 57 (0, 0)) (by (with_reducible repeat (first | refine blk_drewN ?_ _ | refine blk_drew ?_ | refine blk_alloc ?_ _)); exact BK198.out)) : gb198 ≠ gb201)); have n6_ := Aside0.mk ((by rw [hg]; exact Nat.ne_of_gt (blk_lt (g := gb198) (o := .cells #[.int .i64 x199000_4, .bool x199001_4] 57 (0, 0)) (by (with_reducible repeat (first | refine blk_drewN ?_ _ | refine blk_drew ?_ | refine blk_alloc ?_ _)); exact BK198.out)) : gb201 ≠ gb198)); clear BK198; clear HB; have BK198 := n0_; have HB := n1_; have BK201 := n2_; have GW201 := n3_; have GE201 := n4_; have NB198_201 := n5_; have NB201_198 := n6_; clear n0_ n1_ n2_ n3_ n4_ n5_ n6_; clear hb hbox hg; have hnb30 := NB201_198.out; have hnc30 := NB198_201.out; have hcz31_0 : w29.cell? ⟨gb201, 0, none⟩ = some (.int .i64 0) := (blk_cell BK201.out 0).trans rfl; have hcz31_1 : w29.cell? ⟨gb201, 1, none⟩ = some (.bool false) := (blk_cell BK201.out 1).trans rfl; have hfz31_0 := blk_frozen BK201.out 0; have hfz31_1 := blk_frozen BK201.out 1) | (go_at_call 38; (with_reducible refine (pannierref01_Dec.calls k4 t199 t202 _ A26.out).mono ?_); rintro e w' ⟨rfl, ⟨nd, rfl⟩⟩; have hcz32_0 : w29.cell? ⟨gb198, 0, none⟩ = some (.int .i64 x199000_4) := (blk_cell BK198.out 0).trans rfl; have hcz32_1 : w29.cell? ⟨gb198, 1, none⟩ = some (.bool x199001_4) := (blk_cell BK198.out 1).trans rfl; have hfz32_0 := blk_frozen BK198.out 0; have hfz32_1 := blk_frozen BK198.out 1))
                          refine bodyPost_ret (results_cell_row rfl _ _ gb198 57 #[.int .i64 t199, .bool true] (0, 0) _ rfl (by (with_reducible repeat (first | refine blk_drewN ?_ _ | refine blk_drew ?_ | refine blk_alloc ?_ _)); refine blk_put (cs := #[.int .i64 t199, .bool x199001_4]) ?_ 1 _ rfl; (with_reducible repeat (first | refine blk_drewN ?_ _ | refine blk_drew ?_ | refine blk_alloc ?_ _)); refine blk_put (cs := #[.int .i64 x199000_4, .bool x199001_4]) ?_ 0 _ rfl; (with_reducible repeat (first | refine blk_drewN ?_ _ | refine blk_drew ?_ | refine blk_alloc ?_ _)); refine blk_far ?_ NB198_201.out _; (with_reducible repeat (first | refine blk_drewN ?_ _ | refine blk_drew ?_ | refine blk_alloc ?_ _)); refine blk_far ?_ NB198_201.out _; (with_reducible repeat (first | refine blk_drewN ?_ _ | refine blk_drew ?_ | refine blk_alloc ?_ _)); exact BK198.out) Tryd.underlying57 rfl (by kernel_rfl)) rfl ?_
                          exact ⟨by first | rfl | (simp [errW_none, errW_some] <;> rfl) | (simp [*, errW_none, errW_some] <;> rfl), by repeat (first | (with_reducible first | exact HB.out | apply below_alloc | apply pw_below_drewN | apply below_drew1 | refine below_set ?_ GE198.out | refine below_set ?_ GE201.out) | exact HB.out)⟩
                        · rw [if_neg c27] at H
                          have c27b0 : (t202.toList == a0.toList) = false := beq_eq_false_iff_ne.mpr c27
                          have c27b1 : (t202.toList != a0.toList) = true := bne_iff_ne.mpr c27
                          simp only [Option.some.injEq, Prod.mk.injEq] at H
                          obtain ⟨rfl, rfl⟩ := H
                          go_wp2_with (first | ((with_reducible refine gate_callee (f := 58) rfl ?_); refine goesL_ (some 58) rfl rfl Tryd.func58 (by kernel_rfl) rfl #[.int .u64 x4_4, .bool (x3_6 == 1)] rfl (by (try simp only [List.map_toArray, List.map_cons, List.map_nil]); first | done | rfl | (simp only [List.length_drop, List.length_take]; rfl)) ?_; (with_reducible refine (pannierref01_signed.calls k4 x4_4 (x3_6 == 1) t199 true _ A24.out).mono ?_); rintro e w33 ⟨rfl, hb⟩; refine ⟨_, rfl, ?_⟩; have n0_ := Aside0.mk (blk_below (g := gb198) (o := .cells #[.int .i64 x199000_4, .bool x199001_4] 57 (0, 0)) (by (with_reducible repeat (first | refine blk_drewN ?_ _ | refine blk_drew ?_ | refine blk_alloc ?_ _)); exact BK198.out) hb); have n1_ := Aside0.mk (below_step (by repeat (first | (with_reducible first | exact HB.out | apply below_alloc | apply pw_below_drewN | apply below_drew1 | refine below_set ?_ GE198.out) | exact HB.out)) hb); clear BK198; clear HB; have BK198 := n0_; have HB := n1_; clear n0_ n1_; (try clear hb); (try clear hb2); (try clear hk); (try clear hi)) | ((with_reducible refine gate_dst (N := 6) rfl ?_); (try (refine gate_guard (by rfl) ?_; dsimp only)); refine box_event ?hg (N := 6) ?hd (cs := #[.int .i64 0, .bool false]) (t := 57) ?hr ?_; (case hd => rfl); (case hg => rfl); (case hr => first | (go_simp; done) | (go_simp; rfl)); intro gb201 hg w34 hbox hb; have n0_ := Aside0.mk (blk_below (g := gb198) (o := .cells #[.int .i64 x199000_4, .bool x199001_4] 57 (0, 0)) (by (with_reducible repeat (first | refine blk_drewN ?_ _ | refine blk_drew ?_ | refine blk_alloc ?_ _)); exact BK198.out) hb); have n1_ := Aside0.mk (below_step (by repeat (first | (with_reducible first | exact HB.out | apply below_alloc | apply pw_below_drewN | apply below_drew1 | refine below_set ?_ GE198.out) | exact HB.out)) hb); have n2_ := Aside0.mk (hbox); have n3_ := Aside0.mk ((by rw [hg]; exact (below_size (by repeat (first | (with_reducible first | exact HB.out | apply below_alloc | apply pw_below_drewN | apply below_drew1 | refine below_set ?_ GE198.out) | exact HB.out))) : w.heap.size ≤ gb201)); have n4_ := Aside0.mk ((by rw [hg]; exact (below_size (by repeat (first | (with_reducible first | exact HB.out | apply below_alloc | apply pw_below_drewN | apply below_drew1 | refine below_set ?_ GE198.out) | exact HB.out))) : w.heap.size ≤ gb201)); have n5_ := Aside0.mk ((by rw [hg]; exact Nat.ne_of_lt (blk_lt (g := gb198) (o := .cells #[.int .i64 x199000_4, .bool x199001_4] 57 (0, 0)) (by (with_reducible repeat (first | refine blk_drewN ?_ _ | refine blk_drew ?_ | refine blk_alloc ?_ _)); exact BK198.out)) : gb198 ≠ gb201)); have n6_ := Aside0.mk ((by rw [hg]; exact Nat.ne_of_gt (blk_lt (g := gb198) (o := .cells #[.int .i64 x199000_4, .bool x199001_4] 57 (0, 0)) (by (with_reducible repeat (first | refine blk_drewN ?_ _ | refine blk_drew ?_ | refine blk_alloc ?_ _)); exact BK198.out)) : gb201 ≠ gb198)); clear BK198; clear HB; have BK198 := n0_; have HB := n1_; have BK201 := n2_; have GW201 := n3_; have GE201 := n4_; have NB198_201 := n5_; have NB201_198 := n6_; clear n0_ n1_ n2_ n3_ n4_ n5_ n6_; clear hb hbox hg; have hnb35 := NB201_198.out; have hnc35 := NB198_201.out; have hcz36_0 : w34.cell? ⟨gb201, 0, none⟩ = some (.int .i64 0) := (blk_cell BK201.out 0).trans rfl; have hcz36_1 : w34.cell? ⟨gb201, 1, none⟩ = some (.bool false) := (blk_cell BK201.out 1).trans rfl; have hfz36_0 := blk_frozen BK201.out 0; have hfz36_1 := blk_frozen BK201.out 1) | (go_at_call 38; (with_reducible refine (pannierref01_Dec.calls k4 t199 t202 _ A26.out).mono ?_); rintro e w' ⟨rfl, ⟨nd, rfl⟩⟩; have hcz37_0 : w34.cell? ⟨gb198, 0, none⟩ = some (.int .i64 x199000_4) := (blk_cell BK198.out 0).trans rfl; have hcz37_1 : w34.cell? ⟨gb198, 1, none⟩ = some (.bool x199001_4) := (blk_cell BK198.out 1).trans rfl; have hfz37_0 := blk_frozen BK198.out 0; have hfz37_1 := blk_frozen BK198.out 1))
                          refine bodyPost_ret (results_cell_row rfl _ _ gb198 57 #[.int .i64 0, .bool false] (0, 0) _ rfl (by (with_reducible repeat (first | refine blk_drewN ?_ _ | refine blk_drew ?_ | refine blk_alloc ?_ _)); refine blk_put (cs := #[.int .i64 0, .bool x199001_4]) ?_ 1 _ rfl; (with_reducible repeat (first | refine blk_drewN ?_ _ | refine blk_drew ?_ | refine blk_alloc ?_ _)); refine blk_put (cs := #[.int .i64 x199000_4, .bool x199001_4]) ?_ 0 _ rfl; (with_reducible repeat (first | refine blk_drewN ?_ _ | refine blk_drew ?_ | refine blk_alloc ?_ _)); refine blk_far ?_ NB198_201.out _; (with_reducible repeat (first | refine blk_drewN ?_ _ | refine blk_drew ?_ | refine blk_alloc ?_ _)); refine blk_far ?_ NB198_201.out _; (with_reducible repeat (first | refine blk_drewN ?_ _ | refine blk_drew ?_ | refine blk_alloc ?_ _)); exact BK198.out) Tryd.underlying57 rfl (by kernel_rfl)) rfl ?_
                          exact ⟨by first | rfl | (simp [errW_none, errW_some] <;> rfl) | (simp [*, errW_none, errW_some] <;> rfl), by repeat (first | (with_reducible first | exact HB.out | apply below_alloc | apply pw_below_drewN | apply below_drew1 | refine below_set ?_ GE198.out | refine below_set ?_ GE201.out) | exact HB.out)⟩
                      · replace c25 := Bool.eq_false_iff.mpr c25
                        subst c25
                        have H1 : (some (0, false)) = some (r1, r2) := by rw [if_neg (show ¬ (false = true) by decide)] at H; exact H
                        clear H
                        have H := H1
                        clear H1
                        simp only [Option.some.injEq, Prod.mk.injEq] at H
                        obtain ⟨rfl, rfl⟩ := H
                        go_wp2_with (first | ((with_reducible refine gate_callee (f := 58) rfl ?_); refine goesL_ (some 58) rfl rfl Tryd.func58 (by kernel_rfl) rfl #[.int .u64 x4_4, .bool (x3_6 == 1)] rfl (by (try simp only [List.map_toArray, List.map_cons, List.map_nil]); first | done | rfl | (simp only [List.length_drop, List.length_take]; rfl)) ?_; (with_reducible refine (pannierref01_signed.calls k4 x4_4 (x3_6 == 1) t199 false _ A24.out).mono ?_); rintro e w38 ⟨rfl, hb⟩; refine ⟨_, rfl, ?_⟩; have n0_ := Aside0.mk (blk_below (g := gb198) (o := .cells #[.int .i64 x199000_4, .bool x199001_4] 57 (0, 0)) (by (with_reducible repeat (first | refine blk_drewN ?_ _ | refine blk_drew ?_ | refine blk_alloc ?_ _)); exact BK198.out) hb); have n1_ := Aside0.mk (below_step (by repeat (first | (with_reducible first | exact HB.out | apply below_alloc | apply pw_below_drewN | apply below_drew1 | refine below_set ?_ GE198.out) | exact HB.out)) hb); clear BK198; clear HB; have BK198 := n0_; have HB := n1_; clear n0_ n1_; (try clear hb); (try clear hb2); (try clear hk); (try clear hi)) | ((with_reducible refine gate_dst (N := 6) rfl ?_); (try (refine gate_guard (by rfl) ?_; dsimp only)); refine box_event ?hg (N := 6) ?hd (cs := #[.int .i64 0, .bool false]) (t := 57) ?hr ?_; (case hd => rfl); (case hg => rfl); (case hr => first | (go_simp; done) | (go_simp; rfl)); intro gb201 hg w39 hbox hb; have n0_ := Aside0.mk (blk_below (g := gb198) (o := .cells #[.int .i64 x199000_4, .bool x199001_4] 57 (0, 0)) (by (with_reducible repeat (first | refine blk_drewN ?_ _ | refine blk_drew ?_ | refine blk_alloc ?_ _)); exact BK198.out) hb); have n1_ := Aside0.mk (below_step (by repeat (first | (with_reducible first | exact HB.out | apply below_alloc | apply pw_below_drewN | apply below_drew1 | refine below_set ?_ GE198.out) | exact HB.out)) hb); have n2_ := Aside0.mk (hbox); have n3_ := Aside0.mk ((by rw [hg]; exact (below_size (by repeat (first | (with_reducible first | exact HB.out | apply below_alloc | apply pw_below_drewN | apply below_drew1 | refine below_set ?_ GE198.out) | exact HB.out))) : w.heap.size ≤ gb201)); have n4_ := Aside0.mk ((by rw [hg]; exact (below_size (by repeat (first | (with_reducible first | exact HB.out | apply below_alloc | apply pw_below_drewN | apply below_drew1 | refine below_set ?_ GE198.out) | exact HB.out))) : w.heap.size ≤ gb201)); have n5_ := Aside0.mk ((by rw [hg]; exact Nat.ne_of_lt (blk_lt (g := gb198) (o := .cells #[.int .i64 x199000_4, .bool x199001_4] 57 (0, 0)) (by (with_reducible repeat (first | refine blk_drewN ?_ _ | refine blk_drew ?_ | refine blk_alloc ?_ _)); exact BK198.out)) : gb198 ≠ gb201)); have n6_ := Aside0.mk ((by rw [hg]; exact Nat.ne_of_gt (blk_lt (g := gb198) (o := .cells #[.int .i64 x199000_4, .bool x199001_4] 57 (0, 0)) (by (with_reducible repeat (first | refine blk_drewN ?_ _ | refine blk_drew ?_ | refine blk_alloc ?_ _)); exact BK198.out)) : gb201 ≠ gb198)); clear BK198; clear HB; have BK198 := n0_; have HB := n1_; have BK201 := n2_; have GW201 := n3_; have GE201 := n4_; have NB198_201 := n5_; have NB201_198 := n6_; clear n0_ n1_ n2_ n3_ n4_ n5_ n6_; clear hb hbox hg; have hnb40 := NB201_198.out; have hnc40 := NB198_201.out; have hcz41_0 : w39.cell? ⟨gb201, 0, none⟩ = some (.int .i64 0) := (blk_cell BK201.out 0).trans rfl; have hcz41_1 : w39.cell? ⟨gb201, 1, none⟩ = some (.bool false) := (blk_cell BK201.out 1).trans rfl; have hfz41_0 := blk_frozen BK201.out 0; have hfz41_1 := blk_frozen BK201.out 1; have hcz42_0 : w39.cell? ⟨gb198, 0, none⟩ = some (.int .i64 x199000_4) := (blk_cell BK198.out 0).trans rfl; have hcz42_1 : w39.cell? ⟨gb198, 1, none⟩ = some (.bool x199001_4) := (blk_cell BK198.out 1).trans rfl; have hfz42_0 := blk_frozen BK198.out 0; have hfz42_1 := blk_frozen BK198.out 1))
                        refine bodyPost_ret (results_cell_row rfl _ _ gb198 57 #[.int .i64 0, .bool false] (0, 0) _ rfl (by (with_reducible repeat (first | refine blk_drewN ?_ _ | refine blk_drew ?_ | refine blk_alloc ?_ _)); refine blk_put (cs := #[.int .i64 0, .bool x199001_4]) ?_ 1 _ rfl; (with_reducible repeat (first | refine blk_drewN ?_ _ | refine blk_drew ?_ | refine blk_alloc ?_ _)); refine blk_put (cs := #[.int .i64 x199000_4, .bool x199001_4]) ?_ 0 _ rfl; (with_reducible repeat (first | refine blk_drewN ?_ _ | refine blk_drew ?_ | refine blk_alloc ?_ _)); refine blk_far ?_ NB198_201.out _; (with_reducible repeat (first | refine blk_drewN ?_ _ | refine blk_drew ?_ | refine blk_alloc ?_ _)); refine blk_far ?_ NB198_201.out _; (with_reducible repeat (first | refine blk_drewN ?_ _ | refine blk_drew ?_ | refine blk_alloc ?_ _)); exact BK198.out) Tryd.underlying57 rfl (by kernel_rfl)) rfl ?_
                        exact ⟨by first | rfl | (simp [errW_none, errW_some] <;> rfl) | (simp [*, errW_none, errW_some] <;> rfl), by repeat (first | (with_reducible first | exact HB.out | apply below_alloc | apply pw_below_drewN | apply below_drew1 | refine below_set ?_ GE198.out | refine below_set ?_ GE201.out) | exact HB.out)⟩

end Go.Proofs.YtohfidjbnmlfeaaDoor.P

/- Digits and the numbers that they tell, of the program and of the reference. -/
namespace Go.Proofs.YtohfidjbnmlfeaaDoor.P
open Go.RowKit Go.Proofs.YtohfidjbnmlfeaaDoorW.PrintWords Go.Proofs.YtohfidjbnmlfeaaDoorW.PrintLast Go.Proofs.YtohfidjbnmlfeaaDoorW.PrintMore
open M (fit I64 u64w dig itoaF)
set_option linter.unusedVariables false
set_option linter.unusedSimpArgs false

/-- A list of bytes as a string. -/
abbrev bs (l : List UInt8) : ByteArray := ⟨l.toArray⟩
theorem bs_size (l : List UInt8) : (bs l).size = l.length := rfl
theorem bs_append (l m : List UInt8) : bs l ++ bs m = bs (l ++ m) := by
  apply ByteArray.ext; simp [ByteArray.data_append]
theorem bs_toList (l : List UInt8) : (bs l).toList = l := by rw [ByteArray.toList_eq]
theorem bs_data (s : ByteArray) : bs s.data.toList = s := rfl
theorem digit_piece (d : Nat) (h : d < 10) : (⟨#[48, 49, 50, 51, 52, 53, 54, 55, 56, 57]⟩ : ByteArray).extract d (d + 1) = bs [UInt8.ofNat (48 + d)] := by
  have : ∀ d : Fin 10, ((⟨#[48, 49, 50, 51, 52, 53, 54, 55, 56, 57]⟩ : ByteArray).extract d.val (d.val + 1)).data = #[UInt8.ofNat (48 + d.val)] := by decide +kernel
  exact ByteArray.ext (this ⟨d, h⟩)

theorem digits_loop : ∀ (n u i k : Nat) (l : List UInt8), 0 < n → u < 10 ^ n → i + n ≤ 20 → l.length + n ≤ 1000 → n < k → u < 18446744073709551616 →
    pannierref01_digits.l0 k (u : Int) (bs l) (i : Int) = some (bs (dig n u ++ l)) := by
  intro n
  induction n with
  | zero => intro u i k l h; omega
  | succ n ih =>
    intro u i k l _ hu hi hl hk h64
    obtain ⟨k, rfl⟩ : ∃ m, k = m + 1 := ⟨k - 1, by omega⟩
    have hw : wrap64 ((i : Int) + 1) = ((i + 1 : Nat) : Int) := by rw [M.wrap64_id (by unfold I64; omega)]; omega
    have e1 : Int.tmod (u : Int) 10 = ((u % 10 : Nat) : Int) := by rw [show (10 : Int) = ((10 : Nat) : Int) from rfl, ← Int.ofNat_tmod]
    have e2 : Int.tdiv (u : Int) 10 = ((u / 10 : Nat) : Int) := by rw [show (10 : Int) = ((10 : Nat) : Int) from rfl, ← Int.ofNat_tdiv]
    have e3 : IntKind.u64.wrap (((u % 10 : Nat) : Int) + 1) = ((u % 10 + 1 : Nat) : Int) := by rw [u64w]; omega
    have e4 : IntKind.u64.wrap ((u / 10 : Nat) : Int) = ((u / 10 : Nat) : Int) := by rw [u64w]; omega
    have e5 := digit_piece (u % 10) (Nat.mod_lt _ (by omega))
    simp only [pannierref01_digits.l0]
    rw [e1, e2, e3, e4, hw, Int.toNat_natCast, Int.toNat_natCast, e5, bs_append]
    rw [if_pos (by omega), if_pos (by omega), if_pos (by omega), if_pos (by omega), if_pos (by rw [bs_size, bs_size]; simp; omega)]
    by_cases h0 : u < 10
    · rw [if_pos (by omega), dig, if_pos h0, show u % 10 = u by omega]
    · rw [if_neg (by omega), dig, if_neg h0]
      have hn : 0 < n := by
        rcases Nat.eq_zero_or_pos n with rfl | h
        · simp at hu; omega
        · exact h
      rw [ih (u / 10) (i + 1) k _ hn (by rw [Nat.pow_succ] at hu; omega) (by omega) (by simp; omega) (by omega) (by omega)]
      simp
theorem digits_eq (k u : Nat) (hk : 21 ≤ k) (hu : u < 18446744073709551616) : pannierref01_digits.f k (u : Int) = some (bs (dig 20 u)) := by
  unfold pannierref01_digits.f
  have := digits_loop 20 u 0 k [] (by omega) (by omega) (by omega) (by simp) (by omega) hu
  rw [List.append_nil] at this
  exact this
theorem rdec_eq (k : Nat) (hk : 21 ≤ k) (a : Int) (ha : I64 a) : pannierref01_Dec.f k a = some (bs (itoaF a)) := by
  unfold pannierref01_Dec.f itoaF
  have hl := M.dig_length 20 a.natAbs
  unfold I64 at ha
  by_cases h : a < 0
  · rw [if_pos h, whole_eq a ha, Option.bind_some, digits_eq k _ hk (by omega), Option.bind_some, if_pos (by rw [bs_size]; omega), if_pos h]
    rw [show (⟨#[45]⟩ : ByteArray) = bs [45] from rfl, bs_append]; rfl
  · rw [if_neg h, whole_eq a ha, Option.bind_some, digits_eq k _ hk (by omega), Option.bind_some, if_neg h, show a.natAbs = a.toNat by omega]

theorem bt_list (s : ByteArray) (i : Nat) (h : i < s.data.toList.length) : bt s (i : Int) = ((s.data.toList[i]).toNat : Int) := by
  unfold bt
  rw [dif_pos (by simpa using h)]
  rfl
theorem dec_one (a : Int) (ha : I64 a) : num_Dec.f a = some (bs (itoaF a)) := num_Dec_f a ha.1 ha.2
theorem itoa_short (a : Int) : (itoaF a).length ≤ 21 := by
  unfold itoaF
  have h1 := M.dig_length 20 a.natAbs
  have h2 := M.dig_length 20 a.toNat
  split <;> simp <;> omega

/-! ### The reference's Parse: the digits of a number lead to it; and what it tells has these digits -/
theorem l0_at (k : Nat) (s : ByteArray) (f u : Int) (i : Nat) (h : i < s.data.toList.length) (c : UInt8) (hc : s.data.toList[i] = c) :
    pannierref01_Parse.l0 (k + 1) s f u (i : Int) = if (c.toNat : Int) < 48 then some (0, false) else if (c.toNat : Int) > 57 then some (0, false) else if u > 922337203685477580 then some (0, false) else
      pannierref01_Parse.l0 k s f (IntKind.u64.wrap ((IntKind.u64.wrap (u * 10)) + (((c.toNat : Int) - 48) % 256))) (wrap64 ((i : Int) + 1)) := by
  have hs : s.data.toList.length = s.size := by simp
  simp only [pannierref01_Parse.l0]
  rw [if_pos (by omega), if_pos (by omega), bt_list s i h, hc]
theorem parse_end (k : Nat) (hk : 25 ≤ k) (s : ByteArray) (neg : Bool) (v : Int) (u : Int) (hv : I64 v) (h0 : 0 ≤ u) (h1 : u < 18446744073709551616) (hu : v = if neg = true then -u else u) (hs : itoaF v = s.data.toList) :
    pannierref01_Parse.l0 k s (if neg = true then 1 else 0) u (s.size : Int) = some (v, true) := by
  obtain ⟨k, rfl⟩ : ∃ m, k = m + 2 := ⟨k - 2, by omega⟩
  simp only [pannierref01_Parse.l0]
  rw [if_neg (by omega), show ((if neg = true then (1 : Int) else 0) == 1) = neg by cases neg <;> rfl, rsigned_eq _ _ _ h0 h1, ← hu, M.fit_in hv, Option.bind_some, if_pos rfl, rdec_eq _ (by omega) v hv, Option.bind_some, if_pos]
  rw [bs_toList, ByteArray.toList_eq, hs]
theorem parse_run (s : ByteArray) (neg : Bool) (v : Int) (hv : I64 v) (hs : itoaF v = s.data.toList) :
    ∀ (r : List UInt8) (i : Nat) (u k : Nat), s.data.toList.drop i = r → i + r.length = s.size → (∀ c ∈ r, 48 ≤ c.toNat ∧ c.toNat ≤ 57) → M.val u r ≤ 9223372036854775808 →
      v = (if neg = true then -((M.val u r : Nat) : Int) else ((M.val u r : Nat) : Int)) → r.length + 26 ≤ k →
      pannierref01_Parse.l0 k s (if neg = true then 1 else 0) (u : Int) (i : Int) = some (v, true)
  | [], i, u, k, hd, hi, _, hb, hvv, hk => by
    have e : i = s.size := by simpa using hi
    rw [e]
    have hb' : u ≤ 9223372036854775808 := hb
    have hv2 : v = if neg = true then -(u : Int) else (u : Int) := hvv
    have hk' : 25 ≤ k := by simp at hk; omega
    clear hb hvv hk hi hd
    exact parse_end k hk' s neg v u hv (by omega) (by omega) hv2 hs
  | c :: r, i, u, k, hd, hi, hdig, hb, hvv, hk => by
    obtain ⟨k, rfl⟩ : ∃ m, k = m + 1 := ⟨k - 1, by simp at hk; omega⟩
    have hlen : i < s.data.toList.length := by simp at hi ⊢; omega
    have hc : s.data.toList[i] = c := by
      have h1 : (s.data.toList.drop i)[0]? = some c := by rw [hd]; rfl
      rw [List.getElem?_drop, Nat.add_zero] at h1
      exact (List.getElem?_eq_some_iff.mp h1).2
    have hg := M.val_ge r (u * 10 + (c.toNat - 48))
    have hcd := hdig c (by simp)
    have hb' : M.val (u * 10 + (c.toNat - 48)) r ≤ 9223372036854775808 := hb
    have hw : wrap64 ((i : Int) + 1) = ((i + 1 : Nat) : Int) := by
      have : s.data.toList.length = (itoaF v).length := by rw [hs]
      have := itoa_short v
      rw [M.wrap64_id (by unfold I64; omega)]; omega
    rw [l0_at k s _ _ i hlen c hc, if_neg (by omega), if_neg (by omega), if_neg (by omega), hw, u64w, u64w]
    rw [show ((u : Int) * 10 % 18446744073709551616 + ((c.toNat : Int) - 48) % 256) % 18446744073709551616 = ((u * 10 + (c.toNat - 48) : Nat) : Int) by omega]
    exact parse_run s neg v hv hs r (i + 1) _ k (by rw [← List.drop_drop, hd]; rfl) (by simp at hi; omega) (fun x hx => hdig x (by simp [hx])) hb' hvv (by simp at hk; omega)
theorem rparse_itoa (k : Nat) (hk : 60 ≤ k) (v : Int) (hv : I64 v) (s : ByteArray) (hs : itoaF v = s.data.toList) : pannierref01_Parse.f k s = some (v, true) := by
  have hshort := itoa_short v
  have hlen : s.data.toList.length = s.size := by simp
  have hsz : (itoaF v).length = s.size := by rw [hs, hlen]
  have hpos : 0 < (itoaF v).length := by
    unfold itoaF; split
    · simp
    · have := M.dig_ne 20 v.toNat (by omega); exact List.length_pos_iff.mpr this
  obtain ⟨k, rfl⟩ : ∃ m, k = m + 3 := ⟨k - 3, by omega⟩
  unfold pannierref01_Parse.f
  rw [if_pos (by omega), if_pos (by omega)]
  have hb0 : bt s 0 = ((s.data.toList[0]'(by omega)).toNat : Int) := bt_list s 0 (by omega)
  have huv : I64 v := hv
  unfold I64 at hv
  by_cases h : v < 0
  · have he : itoaF v = 45 :: dig 20 v.natAbs := by unfold itoaF; rw [if_pos h]
    have h45 : s.data.toList[0]'(by omega) = 45 := by simp [← hs, he]
    rw [hb0, h45]
    have hdl : (dig 20 v.natAbs).length + 1 = s.size := by rw [← hsz, he]; simp
    have hdn := M.dig_ne 20 v.natAbs (by omega)
    have hdp : 0 < (dig 20 v.natAbs).length := List.length_pos_iff.mpr hdn
    have hd19 : s.size ≤ 20 := by
      have : (dig 20 v.natAbs) = dig 19 v.natAbs := by rw [M.dig_eq 20 _ (by omega) (by omega), M.dig_eq 19 _ (by omega) (by omega)]
      have := M.dig_length 19 v.natAbs
      rw [‹dig 20 v.natAbs = dig 19 v.natAbs›] at hdl
      omega
    have hval := M.val_dig 20 v.natAbs (by omega)
    simp only [pannierref01_Parse.j0, pannierref01_Parse.j1, pannierref01_Parse.j2]
    rw [if_pos (by decide), if_neg (by omega), if_neg (by simp; omega)]
    exact parse_run s true v huv hs (dig 20 v.natAbs) 1 0 k (by rw [← hs, he]; rfl) (by omega) (M.dig_digits _ _) (by rw [hval]; omega) (by rw [hval]; simp; omega) (by omega)
  · have he : itoaF v = dig 20 v.toNat := by unfold itoaF; rw [if_neg h]
    have hd19 : (dig 20 v.toNat).length ≤ 20 := M.dig_length 20 _
    have hval := M.val_dig 20 v.toNat (by omega)
    have hne : ¬ (bt s 0 == 45) = true := by
      rw [hb0]
      have : 48 ≤ (s.data.toList[0]'(by omega)).toNat := (M.dig_digits 20 v.toNat _ (by rw [← he, hs]; exact List.getElem_mem _)).1
      rw [beq_iff_eq]; omega
    have hne' : (bt s 0 == 45) = false := by simpa using hne
    rw [hne']
    simp only [pannierref01_Parse.j0, pannierref01_Parse.j1, pannierref01_Parse.j2]
    rw [if_neg (by simp), if_neg (by omega), if_neg (by rw [he] at hsz; simp; omega)]
    exact parse_run s false v huv hs (dig 20 v.toNat) 0 0 k (by rw [← hs, he]; rfl) (by rw [← hsz, he]; omega) (M.dig_digits _ _) (by rw [hval]; omega) (by rw [hval]; simp; omega) (by omega)
/-- What it tells is none, or has these digits. -/
theorem rparse_tells (k : Nat) (s : ByteArray) (hs : s.size ≤ 2000) (hk : 2100 ≤ k) : ∃ x : Int, ∃ ok : Bool, pannierref01_Parse.f k s = some (x, ok) ∧ ((x = 0 ∧ ok = false) ∨ (ok = true ∧ I64 x ∧ itoaF x = s.data.toList)) := by
  have hlen : s.data.toList.length = s.size := by simp
  have run : ∀ (d i : Nat) (u f : Int) (k : Nat), i + d = s.size → 0 ≤ u → u < 18446744073709551616 → d + 26 ≤ k → ∃ x : Int, ∃ ok : Bool, pannierref01_Parse.l0 k s f u (i : Int) = some (x, ok) ∧ ((x = 0 ∧ ok = false) ∨ (ok = true ∧ I64 x ∧ itoaF x = s.data.toList)) := by
    intro d
    induction d with
    | zero =>
      intro i u f k hi h0 h1 hk
      obtain ⟨k, rfl⟩ : ∃ m, k = m + 2 := ⟨k - 2, by omega⟩
      simp only [pannierref01_Parse.l0]
      rw [if_neg (by omega), rsigned_eq _ _ _ h0 h1, Option.bind_some]
      by_cases hin : I64 (if (f == 1) = true then -u else u)
      · rw [M.fit_in hin, if_pos rfl, rdec_eq _ (by omega) _ hin, Option.bind_some, bs_toList, ByteArray.toList_eq]
        by_cases he : itoaF (if (f == 1) = true then -u else u) = s.data.toList
        · rw [if_pos he]; exact ⟨_, _, rfl, .inr ⟨rfl, hin, he⟩⟩
        · rw [if_neg he]; exact ⟨_, _, rfl, .inl ⟨rfl, rfl⟩⟩
      · rw [M.fit_out hin, if_neg (by simp)]; exact ⟨_, _, rfl, .inl ⟨rfl, rfl⟩⟩
    | succ d ih =>
      intro i u f k hi h0 h1 hk
      obtain ⟨k, rfl⟩ : ∃ m, k = m + 1 := ⟨k - 1, by omega⟩
      rw [l0_at k s f u i (by omega) _ rfl]
      have hw : wrap64 ((i : Int) + 1) = ((i + 1 : Nat) : Int) := by rw [M.wrap64_id (by unfold I64; omega)]; omega
      rw [hw]
      split
      · exact ⟨_, _, rfl, .inl ⟨rfl, rfl⟩⟩
      · split
        · exact ⟨_, _, rfl, .inl ⟨rfl, rfl⟩⟩
        · split
          · exact ⟨_, _, rfl, .inl ⟨rfl, rfl⟩⟩
          · refine ih (i + 1) _ f k (by omega) ?_ ?_ (by omega)
            · rw [u64w]; omega
            · rw [u64w]; omega
  have none_ : ∃ x : Int, ∃ ok : Bool, (some ((0 : Int), false)) = some (x, ok) ∧ ((x = 0 ∧ ok = false) ∨ (ok = true ∧ I64 x ∧ itoaF x = s.data.toList)) := ⟨0, false, rfl, .inl ⟨rfl, rfl⟩⟩
  obtain ⟨k, rfl⟩ : ∃ m, k = m + 3 := ⟨k - 3, by omega⟩
  have j2 : ∀ (i : Nat) (c : Bool), i ≤ s.size → ∃ x : Int, ∃ ok : Bool, pannierref01_Parse.j2 (k + 1) s (i : Int) c = some (x, ok) ∧ ((x = 0 ∧ ok = false) ∨ (ok = true ∧ I64 x ∧ itoaF x = s.data.toList)) := by
    intro i c hi
    simp only [pannierref01_Parse.j2]
    cases c
    · rw [if_neg (by simp)]
      exact run (s.size - i) i 0 i k (by omega) (by omega) (by omega) (by omega)
    · rw [if_pos rfl]; exact none_
  have j1 : ∀ i : Nat, i ≤ s.size → ∃ x : Int, ∃ ok : Bool, pannierref01_Parse.j1 (k + 2) s (i : Int) = some (x, ok) ∧ ((x = 0 ∧ ok = false) ∨ (ok = true ∧ I64 x ∧ itoaF x = s.data.toList)) := by
    intro i hi
    simp only [pannierref01_Parse.j1]
    split
    · exact j2 i _ hi
    · exact j2 i _ hi
  unfold pannierref01_Parse.f
  by_cases h : (s.size : Int) > 0
  · rw [if_pos h, if_pos (by omega)]
    simp only [pannierref01_Parse.j0]
    split
    · exact j1 1 (by omega)
    · exact j1 0 (by omega)
  · rw [if_neg h]
    simp only [pannierref01_Parse.j0]
    rw [if_neg (by simp)]
    exact j1 0 (by omega)
/-- Both tell the same of every text. -/
theorem rparse_eq (k : Nat) (s : ByteArray) (hs : s.size ≤ 2000) (hk : 2100 ≤ k) : pannierref01_Parse.f k s = some (M.numParse s.data.toList) := by
  obtain ⟨x, ok, h, ⟨rfl, rfl⟩ | ⟨rfl, hx, he⟩⟩ := rparse_tells k s hs hk
  · rw [h, M.numParse_not]
    intro v h0 h1 hv
    have := rparse_itoa k (by omega) v ⟨h0, h1⟩ s hv
    rw [this] at h; simp at h
  · rw [h, ← he, M.numParse_itoa x hx.1 hx.2]
end Go.Proofs.YtohfidjbnmlfeaaDoor.P

namespace Go.Proofs.YtohfidjbnmlfeaaDoor.P
open Go.RowKit Go.Proofs.YtohfidjbnmlfeaaDoorW.PrintWords Go.Proofs.YtohfidjbnmlfeaaDoorW.PrintLast Go.Proofs.YtohfidjbnmlfeaaDoorW.PrintMore
attribute [local go_sem] max2_int min2_int max_two min_two max_three min_three max_four min_four   -- for this text's walks alone
set_option linter.unusedVariables false
set_option linter.unusedSimpArgs false

/-! ### pannierlaw01_NumDivides: function 9 -/
def pannierlaw01_NumDivides.f (k : Nat) (a0 : Int) (a1 : Int) : Option (Bool) := (num_Div.f a0 a1).bind fun bt330 => ((num_Mod.f a0 a1).bind fun bt332 => ((num_Pow.f k a0 a1).bind fun bt334 => ((num_Gcd.f k a0 a1).bind fun bt336 => ((pannierref01_Div.f k a0 a1).bind fun bt338 => ((pannierref01_Mod.f k a0 a1).bind fun bt340 => ((pannierref01_Pow.f k a0 a1).bind fun bt342 => ((pannierref01_Gcd.f k a0 a1).bind fun bt344 => (if bt330.1 = bt338.1 then (if (bt330.2 == bt338.2) = true then (if bt332.1 = bt340.1 then (if (bt332.2 == bt340.2) = true then (if bt334.1 = bt342.1 then (if (bt334.2 == bt342.2) = true then (if bt336.1 = bt344.1 then (if (bt336.2 == bt344.2) = true then ((pannierlaw01_wakes.f k).bind fun t350 => (some t350)) else (none)) else (none)) else (none)) else (none)) else (none)) else (none)) else (none)) else (none)))))))))
theorem pannierlaw01_NumDivides.mono : ∀ a0 a1 k, LeO (pannierlaw01_NumDivides.f k a0 a1) (pannierlaw01_NumDivides.f (k + 1) a0 a1) := by
  intro a0 a1 k
  unfold pannierlaw01_NumDivides.f
  repeat' first
      | (with_reducible exact num_Gcd.mono _ _ _)
      | (with_reducible exact num_Pow.mono _ _ _)
      | (with_reducible exact pannierlaw01_wakes.mono _)
      | (with_reducible exact pannierref01_Div.mono _ _ _)
      | (with_reducible exact pannierref01_Gcd.mono _ _ _)
      | (with_reducible exact pannierref01_Mod.mono _ _ _)
      | (with_reducible exact pannierref01_Pow.mono _ _ _)
      | (with_reducible exact LeO.refl _)
      | (with_reducible exact LeO.none _)
      | (with_reducible refine LeO.ite ?_ ?_)
      | (with_reducible refine LeO.bind ?_ (fun _ => ?_))
      | exact num_Gcd.mono _ _ _
      | exact num_Pow.mono _ _ _
      | exact pannierlaw01_wakes.mono _
      | exact pannierref01_Div.mono _ _ _
      | exact pannierref01_Gcd.mono _ _ _
      | exact pannierref01_Mod.mono _ _ _
      | exact pannierref01_Pow.mono _ _ _
      | exact LeO.none _
      | refine LeO.ite ?_ ?_
      | refine LeO.bind ?_ (fun _ => ?_)
set_option maxHeartbeats 8000000 in
set_option maxRecDepth 100000 in
theorem pannierlaw01_NumDivides.calls (k : Nat) (a0 : Int) (a1 : Int) (r : Bool) (w : World) (hG : G2 w) (h : pannierlaw01_NumDivides.f k a0 a1 = some r) :
    Calls Tryd.prog 9 #[.int .i64 a0, .int .i64 a1] w fun e w' => e = .returned (.bool r) ∧ Below w.heap.size w w' := by
  have hu57 := Tryd.underlying57
  have HB := Aside0.mk (Below.refl w.heap.size w)
  have H : ((num_Div.f a0 a1).bind fun bt330 => ((num_Mod.f a0 a1).bind fun bt332 => ((num_Pow.f k a0 a1).bind fun bt334 => ((num_Gcd.f k a0 a1).bind fun bt336 => ((pannierref01_Div.f k a0 a1).bind fun bt338 => ((pannierref01_Mod.f k a0 a1).bind fun bt340 => ((pannierref01_Pow.f k a0 a1).bind fun bt342 => ((pannierref01_Gcd.f k a0 a1).bind fun bt344 => (if bt330.1 = bt338.1 then (if (bt330.2 == bt338.2) = true then (if bt332.1 = bt340.1 then (if (bt332.2 == bt340.2) = true then (if bt334.1 = bt342.1 then (if (bt334.2 == bt342.2) = true then (if bt336.1 = bt344.1 then (if (bt336.2 == bt344.2) = true then ((pannierlaw01_wakes.f k).bind fun t350 => (some t350)) else (none)) else (none)) else (none)) else (none)) else (none)) else (none)) else (none)) else (none)))))))))) = some r := h
  clear h
  replace H := Option.bind_eq_some_iff.mp H
  obtain ⟨⟨t330, t331⟩, A30, H⟩ := H
  replace H : ((num_Mod.f a0 a1).bind fun bt332 => ((num_Pow.f k a0 a1).bind fun bt334 => ((num_Gcd.f k a0 a1).bind fun bt336 => ((pannierref01_Div.f k a0 a1).bind fun bt338 => ((pannierref01_Mod.f k a0 a1).bind fun bt340 => ((pannierref01_Pow.f k a0 a1).bind fun bt342 => ((pannierref01_Gcd.f k a0 a1).bind fun bt344 => (if t330 = bt338.1 then (if (t331 == bt338.2) = true then (if bt332.1 = bt340.1 then (if (bt332.2 == bt340.2) = true then (if bt334.1 = bt342.1 then (if (bt334.2 == bt342.2) = true then (if bt336.1 = bt344.1 then (if (bt336.2 == bt344.2) = true then ((pannierlaw01_wakes.f k).bind fun t350 => (some t350)) else (none)) else (none)) else (none)) else (none)) else (none)) else (none)) else (none)) else (none))))))))) = some r := H
  have A3 := Aside0.mk A30
  clear A30
  replace H := Option.bind_eq_some_iff.mp H
  obtain ⟨⟨t332, t333⟩, A40, H⟩ := H
  replace H : ((num_Pow.f k a0 a1).bind fun bt334 => ((num_Gcd.f k a0 a1).bind fun bt336 => ((pannierref01_Div.f k a0 a1).bind fun bt338 => ((pannierref01_Mod.f k a0 a1).bind fun bt340 => ((pannierref01_Pow.f k a0 a1).bind fun bt342 => ((pannierref01_Gcd.f k a0 a1).bind fun bt344 => (if t330 = bt338.1 then (if (t331 == bt338.2) = true then (if t332 = bt340.1 then (if (t333 == bt340.2) = true then (if bt334.1 = bt342.1 then (if (bt334.2 == bt342.2) = true then (if bt336.1 = bt344.1 then (if (bt336.2 == bt344.2) = true then ((pannierlaw01_wakes.f k).bind fun t350 => (some t350)) else (none)) else (none)) else (none)) else (none)) else (none)) else (none)) else (none)) else (none)))))))) = some r := H
  have A4 := Aside0.mk A40
  clear A40
  replace H := Option.bind_eq_some_iff.mp H
  obtain ⟨⟨t334, t335⟩, A50, H⟩ := H
  replace H : ((num_Gcd.f k a0 a1).bind fun bt336 => ((pannierref01_Div.f k a0 a1).bind fun bt338 => ((pannierref01_Mod.f k a0 a1).bind fun bt340 => ((pannierref01_Pow.f k a0 a1).bind fun bt342 => ((pannierref01_Gcd.f k a0 a1).bind fun bt344 => (if t330 = bt338.1 then (if (t331 == bt338.2) = true then (if t332 = bt340.1 then (if (t333 == bt340.2) = true then (if t334 = bt342.1 then (if (t335 == bt342.2) = true then (if bt336.1 = bt344.1 then (if (bt336.2 == bt344.2) = true then ((pannierlaw01_wakes.f k).bind fun t350 => (some t350)) else (none)) else (none)) else (none)) else (none)) else (none)) else (none)) else (none)) else (none))))))) = some r := H
  have A5 := Aside0.mk A50
  clear A50
  replace H := Option.bind_eq_some_iff.mp H
  obtain ⟨⟨t336, t337⟩, A60, H⟩ := H
  replace H : ((pannierref01_Div.f k a0 a1).bind fun bt338 => ((pannierref01_Mod.f k a0 a1).bind fun bt340 => ((pannierref01_Pow.f k a0 a1).bind fun bt342 => ((pannierref01_Gcd.f k a0 a1).bind fun bt344 => (if t330 = bt338.1 then (if (t331 == bt338.2) = true then (if t332 = bt340.1 then (if (t333 == bt340.2) = true then (if t334 = bt342.1 then (if (t335 == bt342.2) = true then (if t336 = bt344.1 then (if (t337 == bt344.2) = true then ((pannierlaw01_wakes.f k).bind fun t350 => (some t350)) else (none)) else (none)) else (none)) else (none)) else (none)) else (none)) else (none)) else (none)))))) = some r := H
  have A6 := Aside0.mk A60
  clear A60
  replace H := Option.bind_eq_some_iff.mp H
  obtain ⟨⟨t338, t339⟩, A70, H⟩ := H
  replace H : ((pannierref01_Mod.f k a0 a1).bind fun bt340 => ((pannierref01_Pow.f k a0 a1).bind fun bt342 => ((pannierref01_Gcd.f k a0 a1).bind fun bt344 => (if t330 = t338 then (if (t331 == t339) = true then (if t332 = bt340.1 then (if (t333 == bt340.2) = true then (if t334 = bt342.1 then (if (t335 == bt342.2) = true then (if t336 = bt344.1 then (if (t337 == bt344.2) = true then ((pannierlaw01_wakes.f k).bind fun t350 => (some t350)) else (none)) else (none)) else (none)) else (none)) else (none)) else (none)) else (none)) else (none))))) = some r := H
  have A7 := Aside0.mk A70
  clear A70
  replace H := Option.bind_eq_some_iff.mp H
  obtain ⟨⟨t340, t341⟩, A80, H⟩ := H
  replace H : ((pannierref01_Pow.f k a0 a1).bind fun bt342 => ((pannierref01_Gcd.f k a0 a1).bind fun bt344 => (if t330 = t338 then (if (t331 == t339) = true then (if t332 = t340 then (if (t333 == t341) = true then (if t334 = bt342.1 then (if (t335 == bt342.2) = true then (if t336 = bt344.1 then (if (t337 == bt344.2) = true then ((pannierlaw01_wakes.f k).bind fun t350 => (some t350)) else (none)) else (none)) else (none)) else (none)) else (none)) else (none)) else (none)) else (none)))) = some r := H
  have A8 := Aside0.mk A80
  clear A80
  replace H := Option.bind_eq_some_iff.mp H
  obtain ⟨⟨t342, t343⟩, A90, H⟩ := H
  replace H : ((pannierref01_Gcd.f k a0 a1).bind fun bt344 => (if t330 = t338 then (if (t331 == t339) = true then (if t332 = t340 then (if (t333 == t341) = true then (if t334 = t342 then (if (t335 == t343) = true then (if t336 = bt344.1 then (if (t337 == bt344.2) = true then ((pannierlaw01_wakes.f k).bind fun t350 => (some t350)) else (none)) else (none)) else (none)) else (none)) else (none)) else (none)) else (none)) else (none))) = some r := H
  have A9 := Aside0.mk A90
  clear A90
  replace H := Option.bind_eq_some_iff.mp H
  obtain ⟨⟨t344, t345⟩, A100, H⟩ := H
  replace H : (if t330 = t338 then (if (t331 == t339) = true then (if t332 = t340 then (if (t333 == t341) = true then (if t334 = t342 then (if (t335 == t343) = true then (if t336 = t344 then (if (t337 == t345) = true then ((pannierlaw01_wakes.f k).bind fun t350 => (some t350)) else (none)) else (none)) else (none)) else (none)) else (none)) else (none)) else (none)) else (none)) = some r := H
  have A10 := Aside0.mk A100
  clear A100
  by_cases c11 : t330 = t338
  · rw [if_pos c11] at H
    have c11b0 : (t330 == t338) = true := beq_iff_eq.mpr c11
    have c11b1 : (t330 != t338) = false := bne_eq_false_iff_eq.mpr c11
    clear c11
    by_cases c12 : (t331 == t339) = true
    · rw [if_pos c12] at H
      have c12b0 : (t331 == t339) = true := c12
      (try (have c12b1 : decide (t331 = t339) = true := by simpa using c12))
      (try (have c12b2 : (t331 == t339) = true := by simpa using c12))
      clear c12
      by_cases c13 : t332 = t340
      · rw [if_pos c13] at H
        have c13b0 : (t332 == t340) = true := beq_iff_eq.mpr c13
        have c13b1 : (t332 != t340) = false := bne_eq_false_iff_eq.mpr c13
        clear c13
        by_cases c14 : (t333 == t341) = true
        · rw [if_pos c14] at H
          have c14b0 : (t333 == t341) = true := c14
          (try (have c14b1 : decide (t333 = t341) = true := by simpa using c14))
          (try (have c14b2 : (t333 == t341) = true := by simpa using c14))
          clear c14
          by_cases c15 : t334 = t342
          · rw [if_pos c15] at H
            have c15b0 : (t334 == t342) = true := beq_iff_eq.mpr c15
            have c15b1 : (t334 != t342) = false := bne_eq_false_iff_eq.mpr c15
            clear c15
            by_cases c16 : (t335 == t343) = true
            · rw [if_pos c16] at H
              have c16b0 : (t335 == t343) = true := c16
              (try (have c16b1 : decide (t335 = t343) = true := by simpa using c16))
              (try (have c16b2 : (t335 == t343) = true := by simpa using c16))
              clear c16
              by_cases c17 : t336 = t344
              · rw [if_pos c17] at H
                have c17b0 : (t336 == t344) = true := beq_iff_eq.mpr c17
                have c17b1 : (t336 != t344) = false := bne_eq_false_iff_eq.mpr c17
                clear c17
                by_cases c18 : (t337 == t345) = true
                · rw [if_pos c18] at H
                  have c18b0 : (t337 == t345) = true := c18
                  (try (have c18b1 : decide (t337 = t345) = true := by simpa using c18))
                  (try (have c18b2 : (t337 == t345) = true := by simpa using c18))
                  clear c18
                  replace H := Option.bind_eq_some_iff.mp H
                  obtain ⟨t350, A190, H⟩ := H
                  replace H : (some t350) = some r := H
                  have A19 := Aside0.mk A190
                  clear A190
                  obtain rfl := Option.some.inj H
                  go_enter Tryd.func9, Tryd.ntmps9
                  go_wp2_with (first | ((with_reducible refine gate_callee (f := 39) rfl ?_); refine goesL_ (some 20) rfl rfl Tryd.func39 (by kernel_rfl) rfl #[.int .i64 a0, .int .i64 a1] rfl (by (try simp only [List.map_toArray, List.map_cons, List.map_nil]); first | done | rfl | (simp only [List.length_drop, List.length_take]; rfl)) ?_; (with_reducible refine (num_Div.calls a0 a1 t330 t331 _ A3.out).mono ?_); rintro e w' ⟨rfl, ⟨nd, rfl⟩⟩; refine ⟨_, rfl, ?_⟩) | ((with_reducible refine gate_callee (f := 40) rfl ?_); refine goesL_ (some 26) rfl rfl Tryd.func40 (by kernel_rfl) rfl #[.int .i64 a0, .int .i64 a1] rfl (by (try simp only [List.map_toArray, List.map_cons, List.map_nil]); first | done | rfl | (simp only [List.length_drop, List.length_take]; rfl)) ?_; (with_reducible refine (num_Mod.calls a0 a1 t332 t333 _ A4.out).mono ?_); rintro e w' ⟨rfl, ⟨nd, rfl⟩⟩; refine ⟨_, rfl, ?_⟩) | ((with_reducible refine gate_callee (f := 41) rfl ?_); refine goesL_ (some 32) rfl rfl Tryd.func41 (by kernel_rfl) rfl #[.int .i64 a0, .int .i64 a1] rfl (by (try simp only [List.map_toArray, List.map_cons, List.map_nil]); first | done | rfl | (simp only [List.length_drop, List.length_take]; rfl)) ?_; (with_reducible refine (num_Pow.calls k a0 a1 t334 t335 _ A5.out).mono ?_); rintro e w20 ⟨rfl, hb⟩; refine ⟨_, rfl, ?_⟩; have n0_ := Aside0.mk (below_step (by repeat (first | (with_reducible first | exact HB.out | apply below_alloc | apply pw_below_drewN | apply below_drew1) | exact HB.out)) hb); clear HB; have HB := n0_; clear n0_; (try clear hb); (try clear hb2); (try clear hk); (try clear hi)) | ((with_reducible refine gate_callee (f := 42) rfl ?_); refine goesL_ (some 38) rfl rfl Tryd.func42 (by kernel_rfl) rfl #[.int .i64 a0, .int .i64 a1] rfl (by (try simp only [List.map_toArray, List.map_cons, List.map_nil]); first | done | rfl | (simp only [List.length_drop, List.length_take]; rfl)) ?_; (with_reducible refine (num_Gcd.calls k a0 a1 t336 t337 _ A6.out).mono ?_); rintro e w' ⟨rfl, ⟨nd, rfl⟩⟩; refine ⟨_, rfl, ?_⟩; (try (rw [drewN_self w20]; generalize hq_ : World.drewN w20 _ = w20; have n0_ : Aside0 (Below w.heap.size w w20) := ⟨by rw [← hq_]; exact (by repeat (first | (with_reducible first | exact HB.out | apply below_alloc | apply pw_below_drewN | apply below_drew1) | exact HB.out))⟩; clear HB hq_; have HB := n0_; clear n0_))) | ((with_reducible refine gate_callee (f := 43) rfl ?_); refine goesL_ (some 43) rfl rfl Tryd.func43 (by kernel_rfl) rfl #[.int .i64 a0, .int .i64 a1] rfl (by (try simp only [List.map_toArray, List.map_cons, List.map_nil]); first | done | rfl | (simp only [List.length_drop, List.length_take]; rfl)) ?_; (with_reducible refine (pannierref01_Div.calls k a0 a1 t338 t339 _ A7.out).mono ?_); rintro e w21 ⟨rfl, hb⟩; refine ⟨_, rfl, ?_⟩; have n0_ := Aside0.mk (below_step (by repeat (first | (with_reducible first | exact HB.out | apply below_alloc | apply pw_below_drewN | apply below_drew1) | exact HB.out)) hb); clear HB; have HB := n0_; clear n0_; (try clear hb); (try clear hb2); (try clear hk); (try clear hi)) | ((with_reducible refine gate_callee (f := 44) rfl ?_); refine goesL_ (some 46) rfl rfl Tryd.func44 (by kernel_rfl) rfl #[.int .i64 a0, .int .i64 a1] rfl (by (try simp only [List.map_toArray, List.map_cons, List.map_nil]); first | done | rfl | (simp only [List.length_drop, List.length_take]; rfl)) ?_; (with_reducible refine (pannierref01_Mod.calls k a0 a1 t340 t341 _ A8.out).mono ?_); rintro e w22 ⟨rfl, hb⟩; refine ⟨_, rfl, ?_⟩; have n0_ := Aside0.mk (below_step (by repeat (first | (with_reducible first | exact HB.out | apply below_alloc | apply pw_below_drewN | apply below_drew1) | exact HB.out)) hb); clear HB; have HB := n0_; clear n0_; (try clear hb); (try clear hb2); (try clear hk); (try clear hi)) | ((with_reducible refine gate_callee (f := 45) rfl ?_); refine goesL_ (some 49) rfl rfl Tryd.func45 (by kernel_rfl) rfl #[.int .i64 a0, .int .i64 a1] rfl (by (try simp only [List.map_toArray, List.map_cons, List.map_nil]); first | done | rfl | (simp only [List.length_drop, List.length_take]; rfl)) ?_; (with_reducible refine (pannierref01_Pow.calls k a0 a1 t342 t343 _ A9.out).mono ?_); rintro e w23 ⟨rfl, hb⟩; refine ⟨_, rfl, ?_⟩; have n0_ := Aside0.mk (below_step (by repeat (first | (with_reducible first | exact HB.out | apply below_alloc | apply pw_below_drewN | apply below_drew1) | exact HB.out)) hb); clear HB; have HB := n0_; clear n0_; (try clear hb); (try clear hb2); (try clear hk); (try clear hi)) | ((with_reducible refine gate_callee (f := 46) rfl ?_); refine goesL_ (some 52) rfl rfl Tryd.func46 (by kernel_rfl) rfl #[.int .i64 a0, .int .i64 a1] rfl (by (try simp only [List.map_toArray, List.map_cons, List.map_nil]); first | done | rfl | (simp only [List.length_drop, List.length_take]; rfl)) ?_; (with_reducible refine (pannierref01_Gcd.calls k a0 a1 t344 t345 _ A10.out).mono ?_); rintro e w24 ⟨rfl, hb⟩; refine ⟨_, rfl, ?_⟩; have n0_ := Aside0.mk (below_step (by repeat (first | (with_reducible first | exact HB.out | apply below_alloc | apply pw_below_drewN | apply below_drew1) | exact HB.out)) hb); clear HB; have HB := n0_; clear n0_; (try clear hb); (try clear hb2); (try clear hk); (try clear hi)) | ((with_reducible refine gate_dst (N := 13) rfl ?_); refine box_event ?hg (N := 13) ?hd (cs := #[.int .i64 0, .bool false]) (t := 57) ?hr ?_; (case hd => rfl); (case hg => rfl); (case hr => first | (go_simp; done) | (go_simp; rfl)); intro gb346 hg w25 hbox hb; have n0_ := Aside0.mk (below_step (by repeat (first | (with_reducible first | exact HB.out | apply below_alloc | apply pw_below_drewN | apply below_drew1) | exact HB.out)) hb); have n1_ := Aside0.mk (hbox); have n2_ := Aside0.mk ((by rw [hg]; exact (below_size (by repeat (first | (with_reducible first | exact HB.out | apply below_alloc | apply pw_below_drewN | apply below_drew1) | exact HB.out))) : w.heap.size ≤ gb346)); have n3_ := Aside0.mk ((by rw [hg]; exact (below_size (by repeat (first | (with_reducible first | exact HB.out | apply below_alloc | apply pw_below_drewN | apply below_drew1) | exact HB.out))) : w.heap.size ≤ gb346)); clear HB; have HB := n0_; have BK346 := n1_; have GW346 := n2_; have GE346 := n3_; clear n0_ n1_ n2_ n3_; clear hb hbox hg) | ((with_reducible refine gate_dst (N := 14) rfl ?_); refine box_event ?hg (N := 14) ?hd (cs := #[.int .i64 0, .bool false]) (t := 57) ?hr ?_; (case hd => rfl); (case hg => rfl); (case hr => first | (go_simp; done) | (go_simp; rfl)); intro gb347 hg w26 hbox hb; have n0_ := Aside0.mk (blk_below (g := gb346) (o := .cells #[.int .i64 0, .bool false] 57 (0, 0)) (by (with_reducible repeat (first | refine blk_drewN ?_ _ | refine blk_drew ?_ | refine blk_alloc ?_ _)); exact BK346.out) hb); have n1_ := Aside0.mk (below_step (by repeat (first | (with_reducible first | exact HB.out | apply below_alloc | apply pw_below_drewN | apply below_drew1 | refine below_set ?_ GE346.out) | exact HB.out)) hb); have n2_ := Aside0.mk (hbox); have n3_ := Aside0.mk ((by rw [hg]; exact (below_size (by repeat (first | (with_reducible first | exact HB.out | apply below_alloc | apply pw_below_drewN | apply below_drew1 | refine below_set ?_ GE346.out) | exact HB.out))) : w.heap.size ≤ gb347)); have n4_ := Aside0.mk ((by rw [hg]; exact (below_size (by repeat (first | (with_reducible first | exact HB.out | apply below_alloc | apply pw_below_drewN | apply below_drew1 | refine below_set ?_ GE346.out) | exact HB.out))) : w.heap.size ≤ gb347)); have n5_ := Aside0.mk ((by rw [hg]; exact Nat.ne_of_lt (blk_lt (g := gb346) (o := .cells #[.int .i64 0, .bool false] 57 (0, 0)) (by (with_reducible repeat (first | refine blk_drewN ?_ _ | refine blk_drew ?_ | refine blk_alloc ?_ _)); exact BK346.out)) : gb346 ≠ gb347)); have n6_ := Aside0.mk ((by rw [hg]; exact Nat.ne_of_gt (blk_lt (g := gb346) (o := .cells #[.int .i64 0, .bool false] 57 (0, 0)) (by (with_reducible repeat (first | refine blk_drewN ?_ _ | refine blk_drew ?_ | refine blk_alloc ?_ _)); exact BK346.out)) : gb347 ≠ gb346)); clear BK346; clear HB; have BK346 := n0_; have HB := n1_; have BK347 := n2_; have GW347 := n3_; have GE347 := n4_; have NB346_347 := n5_; have NB347_346 := n6_; clear n0_ n1_ n2_ n3_ n4_ n5_ n6_; clear hb hbox hg) | ((with_reducible refine gate_dst (N := 15) rfl ?_); refine box_event ?hg (N := 15) ?hd (cs := #[.int .i64 0, .bool false]) (t := 57) ?hr ?_; (case hd => rfl); (case hg => rfl); (case hr => first | (go_simp; done) | (go_simp; rfl)); intro gb348 hg w27 hbox hb; have n0_ := Aside0.mk (blk_below (g := gb346) (o := .cells #[.int .i64 0, .bool false] 57 (0, 0)) (by (with_reducible repeat (first | refine blk_drewN ?_ _ | refine blk_drew ?_ | refine blk_alloc ?_ _)); exact BK346.out) hb); have n1_ := Aside0.mk (blk_below (g := gb347) (o := .cells #[.int .i64 0, .bool false] 57 (0, 0)) (by (with_reducible repeat (first | refine blk_drewN ?_ _ | refine blk_drew ?_ | refine blk_alloc ?_ _)); exact BK347.out) hb); have n2_ := Aside0.mk (below_step (by repeat (first | (with_reducible first | exact HB.out | apply below_alloc | apply pw_below_drewN | apply below_drew1 | refine below_set ?_ GE346.out | refine below_set ?_ GE347.out) | exact HB.out)) hb); have n3_ := Aside0.mk (hbox); have n4_ := Aside0.mk ((by rw [hg]; exact (below_size (by repeat (first | (with_reducible first | exact HB.out | apply below_alloc | apply pw_below_drewN | apply below_drew1 | refine below_set ?_ GE346.out | refine below_set ?_ GE347.out) | exact HB.out))) : w.heap.size ≤ gb348)); have n5_ := Aside0.mk ((by rw [hg]; exact (below_size (by repeat (first | (with_reducible first | exact HB.out | apply below_alloc | apply pw_below_drewN | apply below_drew1 | refine below_set ?_ GE346.out | refine below_set ?_ GE347.out) | exact HB.out))) : w.heap.size ≤ gb348)); have n6_ := Aside0.mk ((by rw [hg]; exact Nat.ne_of_lt (blk_lt (g := gb346) (o := .cells #[.int .i64 0, .bool false] 57 (0, 0)) (by (with_reducible repeat (first | refine blk_drewN ?_ _ | refine blk_drew ?_ | refine blk_alloc ?_ _)); exact BK346.out)) : gb346 ≠ gb348)); have n7_ := Aside0.mk ((by rw [hg]; exact Nat.ne_of_gt (blk_lt (g := gb346) (o := .cells #[.int .i64 0, .bool false] 57 (0, 0)) (by (with_reducible repeat (first | refine blk_drewN ?_ _ | refine blk_drew ?_ | refine blk_alloc ?_ _)); exact BK346.out)) : gb348 ≠ gb346)); have n8_ := Aside0.mk ((by rw [hg]; exact Nat.ne_of_lt (blk_lt (g := gb347) (o := .cells #[.int .i64 0, .bool false] 57 (0, 0)) (by (with_reducible repeat (first | refine blk_drewN ?_ _ | refine blk_drew ?_ | refine blk_alloc ?_ _)); exact BK347.out)) : gb347 ≠ gb348)); have n9_ := Aside0.mk ((by rw [hg]; exact Nat.ne_of_gt (blk_lt (g := gb347) (o := .cells #[.int .i64 0, .bool false] 57 (0, 0)) (by (with_reducible repeat (first | refine blk_drewN ?_ _ | refine blk_drew ?_ | refine blk_alloc ?_ _)); exact BK347.out)) : gb348 ≠ gb347)); clear BK346; clear BK347; clear HB; have BK346 := n0_; have BK347 := n1_; have HB := n2_; have BK348 := n3_; have GW348 := n4_; have GE348 := n5_; have NB346_348 := n6_; have NB348_346 := n7_; have NB347_348 := n8_; have NB348_347 := n9_; clear n0_ n1_ n2_ n3_ n4_ n5_ n6_ n7_ n8_ n9_; clear hb hbox hg) | ((with_reducible refine gate_dst (N := 16) rfl ?_); refine box_event ?hg (N := 16) ?hd (cs := #[.int .i64 0, .bool false]) (t := 57) ?hr ?_; (case hd => rfl); (case hg => rfl); (case hr => first | (go_simp; done) | (go_simp; rfl)); intro gb349 hg w28 hbox hb; have n0_ := Aside0.mk (blk_below (g := gb346) (o := .cells #[.int .i64 0, .bool false] 57 (0, 0)) (by (with_reducible repeat (first | refine blk_drewN ?_ _ | refine blk_drew ?_ | refine blk_alloc ?_ _)); exact BK346.out) hb); have n1_ := Aside0.mk (blk_below (g := gb347) (o := .cells #[.int .i64 0, .bool false] 57 (0, 0)) (by (with_reducible repeat (first | refine blk_drewN ?_ _ | refine blk_drew ?_ | refine blk_alloc ?_ _)); exact BK347.out) hb); have n2_ := Aside0.mk (blk_below (g := gb348) (o := .cells #[.int .i64 0, .bool false] 57 (0, 0)) (by (with_reducible repeat (first | refine blk_drewN ?_ _ | refine blk_drew ?_ | refine blk_alloc ?_ _)); exact BK348.out) hb); have n3_ := Aside0.mk (below_step (by repeat (first | (with_reducible first | exact HB.out | apply below_alloc | apply pw_below_drewN | apply below_drew1 | refine below_set ?_ GE346.out | refine below_set ?_ GE347.out | refine below_set ?_ GE348.out) | exact HB.out)) hb); have n4_ := Aside0.mk (hbox); have n5_ := Aside0.mk ((by rw [hg]; exact (below_size (by repeat (first | (with_reducible first | exact HB.out | apply below_alloc | apply pw_below_drewN | apply below_drew1 | refine below_set ?_ GE346.out | refine below_set ?_ GE347.out | refine below_set ?_ GE348.out) | exact HB.out))) : w.heap.size ≤ gb349)); have n6_ := Aside0.mk ((by rw [hg]; exact (below_size (by repeat (first | (with_reducible first | exact HB.out | apply below_alloc | apply pw_below_drewN | apply below_drew1 | refine below_set ?_ GE346.out | refine below_set ?_ GE347.out | refine below_set ?_ GE348.out) | exact HB.out))) : w.heap.size ≤ gb349)); have n7_ := Aside0.mk ((by rw [hg]; exact Nat.ne_of_lt (blk_lt (g := gb346) (o := .cells #[.int .i64 0, .bool false] 57 (0, 0)) (by (with_reducible repeat (first | refine blk_drewN ?_ _ | refine blk_drew ?_ | refine blk_alloc ?_ _)); exact BK346.out)) : gb346 ≠ gb349)); have n8_ := Aside0.mk ((by rw [hg]; exact Nat.ne_of_gt (blk_lt (g := gb346) (o := .cells #[.int .i64 0, .bool false] 57 (0, 0)) (by (with_reducible repeat (first | refine blk_drewN ?_ _ | refine blk_drew ?_ | refine blk_alloc ?_ _)); exact BK346.out)) : gb349 ≠ gb346)); have n9_ := Aside0.mk ((by rw [hg]; exact Nat.ne_of_lt (blk_lt (g := gb347) (o := .cells #[.int .i64 0, .bool false] 57 (0, 0)) (by (with_reducible repeat (first | refine blk_drewN ?_ _ | refine blk_drew ?_ | refine blk_alloc ?_ _)); exact BK347.out)) : gb347 ≠ gb349)); have n10_ := Aside0.mk ((by rw [hg]; exact Nat.ne_of_gt (blk_lt (g := gb347) (o := .cells #[.int .i64 0, .bool false] 57 (0, 0)) (by (with_reducible repeat (first | refine blk_drewN ?_ _ | refine blk_drew ?_ | refine blk_alloc ?_ _)); exact BK347.out)) : gb349 ≠ gb347)); have n11_ := Aside0.mk ((by rw [hg]; exact Nat.ne_of_lt (blk_lt (g := gb348) (o := .cells #[.int .i64 0, .bool false] 57 (0, 0)) (by (with_reducible repeat (first | refine blk_drewN ?_ _ | refine blk_drew ?_ | refine blk_alloc ?_ _)); exact BK348.out)) : gb348 ≠ gb349)); have n12_ := Aside0.mk ((by rw [hg]; exact Nat.ne_of_gt (blk_lt (g := gb348) (o := .cells #[.int .i64 0, .bool false] 57 (0, 0)) (by (with_reducible repeat (first | refine blk_drewN ?_ _ | refine blk_drew ?_ | refine blk_alloc ?_ _)); exact BK348.out)) : gb349 ≠ gb348)); clear BK346; clear BK347; clear BK348; clear HB; have BK346 := n0_; have BK347 := n1_; have BK348 := n2_; have HB := n3_; have BK349 := n4_; have GW349 := n5_; have GE349 := n6_; have NB346_349 := n7_; have NB349_346 := n8_; have NB347_349 := n9_; have NB349_347 := n10_; have NB348_349 := n11_; have NB349_348 := n12_; clear n0_ n1_ n2_ n3_ n4_ n5_ n6_ n7_ n8_ n9_ n10_ n11_ n12_; clear hb hbox hg; have hnb29 := NB346_347.out; have hnc29 := NB347_346.out; have hnb30 := NB346_348.out; have hnc30 := NB348_346.out; have hnb31 := NB346_349.out; have hnc31 := NB349_346.out; have hcz32_0 : w28.cell? ⟨gb346, 0, none⟩ = some (.int .i64 0) := (blk_cell BK346.out 0).trans rfl; have hcz32_1 : w28.cell? ⟨gb346, 1, none⟩ = some (.bool false) := (blk_cell BK346.out 1).trans rfl; have hfz32_0 := blk_frozen BK346.out 0; have hfz32_1 := blk_frozen BK346.out 1; have hnb33 := NB347_348.out; have hnc33 := NB348_347.out; have hnb34 := NB347_349.out; have hnc34 := NB349_347.out; have hcz35_0 : w28.cell? ⟨gb347, 0, none⟩ = some (.int .i64 0) := (blk_cell BK347.out 0).trans rfl; have hcz35_1 : w28.cell? ⟨gb347, 1, none⟩ = some (.bool false) := (blk_cell BK347.out 1).trans rfl; have hfz35_0 := blk_frozen BK347.out 0; have hfz35_1 := blk_frozen BK347.out 1; have hnb36 := NB348_349.out; have hnc36 := NB349_348.out; have hcz37_0 : w28.cell? ⟨gb348, 0, none⟩ = some (.int .i64 0) := (blk_cell BK348.out 0).trans rfl; have hcz37_1 : w28.cell? ⟨gb348, 1, none⟩ = some (.bool false) := (blk_cell BK348.out 1).trans rfl; have hfz37_0 := blk_frozen BK348.out 0; have hfz37_1 := blk_frozen BK348.out 1; have hcz38_0 : w28.cell? ⟨gb349, 0, none⟩ = some (.int .i64 0) := (blk_cell BK349.out 0).trans rfl; have hcz38_1 : w28.cell? ⟨gb349, 1, none⟩ = some (.bool false) := (blk_cell BK349.out 1).trans rfl; have hfz38_0 := blk_frozen BK349.out 0; have hfz38_1 := blk_frozen BK349.out 1) | (go_at_call 34; (with_reducible refine (pannierlaw01_wakes.calls k  t350 _ ?side1 A19.out).mono ?_); (case side1 => exact gl_2_2 (by repeat (first | (with_reducible first | exact HB.out | apply below_alloc | apply pw_below_drewN | apply below_drew1 | refine below_set ?_ GE346.out | refine below_set ?_ GE347.out | refine below_set ?_ GE348.out | refine below_set ?_ GE349.out) | exact HB.out)) hG); rintro e w39 ⟨rfl, hb⟩; have n0_ := Aside0.mk (blk_below (g := gb346) (o := .cells #[.int .i64 t338, .bool t339] 57 (0, 0)) (by (with_reducible repeat (first | refine blk_drewN ?_ _ | refine blk_drew ?_ | refine blk_alloc ?_ _)); refine blk_far ?_ NB346_349.out _; (with_reducible repeat (first | refine blk_drewN ?_ _ | refine blk_drew ?_ | refine blk_alloc ?_ _)); refine blk_far ?_ NB346_349.out _; (with_reducible repeat (first | refine blk_drewN ?_ _ | refine blk_drew ?_ | refine blk_alloc ?_ _)); refine blk_far ?_ NB346_348.out _; (with_reducible repeat (first | refine blk_drewN ?_ _ | refine blk_drew ?_ | refine blk_alloc ?_ _)); refine blk_far ?_ NB346_348.out _; (with_reducible repeat (first | refine blk_drewN ?_ _ | refine blk_drew ?_ | refine blk_alloc ?_ _)); refine blk_far ?_ NB346_347.out _; (with_reducible repeat (first | refine blk_drewN ?_ _ | refine blk_drew ?_ | refine blk_alloc ?_ _)); refine blk_far ?_ NB346_347.out _; (with_reducible repeat (first | refine blk_drewN ?_ _ | refine blk_drew ?_ | refine blk_alloc ?_ _)); refine blk_put (cs := #[.int .i64 t338, .bool false]) ?_ 1 _ rfl; (with_reducible repeat (first | refine blk_drewN ?_ _ | refine blk_drew ?_ | refine blk_alloc ?_ _)); refine blk_put (cs := #[.int .i64 0, .bool false]) ?_ 0 _ rfl; (with_reducible repeat (first | refine blk_drewN ?_ _ | refine blk_drew ?_ | refine blk_alloc ?_ _)); exact BK346.out) hb); have n1_ := Aside0.mk (blk_below (g := gb347) (o := .cells #[.int .i64 t340, .bool t341] 57 (0, 0)) (by (with_reducible repeat (first | refine blk_drewN ?_ _ | refine blk_drew ?_ | refine blk_alloc ?_ _)); refine blk_far ?_ NB347_349.out _; (with_reducible repeat (first | refine blk_drewN ?_ _ | refine blk_drew ?_ | refine blk_alloc ?_ _)); refine blk_far ?_ NB347_349.out _; (with_reducible repeat (first | refine blk_drewN ?_ _ | refine blk_drew ?_ | refine blk_alloc ?_ _)); refine blk_far ?_ NB347_348.out _; (with_reducible repeat (first | refine blk_drewN ?_ _ | refine blk_drew ?_ | refine blk_alloc ?_ _)); refine blk_far ?_ NB347_348.out _; (with_reducible repeat (first | refine blk_drewN ?_ _ | refine blk_drew ?_ | refine blk_alloc ?_ _)); refine blk_put (cs := #[.int .i64 t340, .bool false]) ?_ 1 _ rfl; (with_reducible repeat (first | refine blk_drewN ?_ _ | refine blk_drew ?_ | refine blk_alloc ?_ _)); refine blk_put (cs := #[.int .i64 0, .bool false]) ?_ 0 _ rfl; (with_reducible repeat (first | refine blk_drewN ?_ _ | refine blk_drew ?_ | refine blk_alloc ?_ _)); refine blk_far ?_ NB347_346.out _; (with_reducible repeat (first | refine blk_drewN ?_ _ | refine blk_drew ?_ | refine blk_alloc ?_ _)); refine blk_far ?_ NB347_346.out _; (with_reducible repeat (first | refine blk_drewN ?_ _ | refine blk_drew ?_ | refine blk_alloc ?_ _)); exact BK347.out) hb); have n2_ := Aside0.mk (blk_below (g := gb348) (o := .cells #[.int .i64 t342, .bool t343] 57 (0, 0)) (by (with_reducible repeat (first | refine blk_drewN ?_ _ | refine blk_drew ?_ | refine blk_alloc ?_ _)); refine blk_far ?_ NB348_349.out _; (with_reducible repeat (first | refine blk_drewN ?_ _ | refine blk_drew ?_ | refine blk_alloc ?_ _)); refine blk_far ?_ NB348_349.out _; (with_reducible repeat (first | refine blk_drewN ?_ _ | refine blk_drew ?_ | refine blk_alloc ?_ _)); refine blk_put (cs := #[.int .i64 t342, .bool false]) ?_ 1 _ rfl; (with_reducible repeat (first | refine blk_drewN ?_ _ | refine blk_drew ?_ | refine blk_alloc ?_ _)); refine blk_put (cs := #[.int .i64 0, .bool false]) ?_ 0 _ rfl; (with_reducible repeat (first | refine blk_drewN ?_ _ | refine blk_drew ?_ | refine blk_alloc ?_ _)); refine blk_far ?_ NB348_347.out _; (with_reducible repeat (first | refine blk_drewN ?_ _ | refine blk_drew ?_ | refine blk_alloc ?_ _)); refine blk_far ?_ NB348_347.out _; (with_reducible repeat (first | refine blk_drewN ?_ _ | refine blk_drew ?_ | refine blk_alloc ?_ _)); refine blk_far ?_ NB348_346.out _; (with_reducible repeat (first | refine blk_drewN ?_ _ | refine blk_drew ?_ | refine blk_alloc ?_ _)); refine blk_far ?_ NB348_346.out _; (with_reducible repeat (first | refine blk_drewN ?_ _ | refine blk_drew ?_ | refine blk_alloc ?_ _)); exact BK348.out) hb); have n3_ := Aside0.mk (blk_below (g := gb349) (o := .cells #[.int .i64 t344, .bool t345] 57 (0, 0)) (by (with_reducible repeat (first | refine blk_drewN ?_ _ | refine blk_drew ?_ | refine blk_alloc ?_ _)); refine blk_put (cs := #[.int .i64 t344, .bool false]) ?_ 1 _ rfl; (with_reducible repeat (first | refine blk_drewN ?_ _ | refine blk_drew ?_ | refine blk_alloc ?_ _)); refine blk_put (cs := #[.int .i64 0, .bool false]) ?_ 0 _ rfl; (with_reducible repeat (first | refine blk_drewN ?_ _ | refine blk_drew ?_ | refine blk_alloc ?_ _)); refine blk_far ?_ NB349_348.out _; (with_reducible repeat (first | refine blk_drewN ?_ _ | refine blk_drew ?_ | refine blk_alloc ?_ _)); refine blk_far ?_ NB349_348.out _; (with_reducible repeat (first | refine blk_drewN ?_ _ | refine blk_drew ?_ | refine blk_alloc ?_ _)); refine blk_far ?_ NB349_347.out _; (with_reducible repeat (first | refine blk_drewN ?_ _ | refine blk_drew ?_ | refine blk_alloc ?_ _)); refine blk_far ?_ NB349_347.out _; (with_reducible repeat (first | refine blk_drewN ?_ _ | refine blk_drew ?_ | refine blk_alloc ?_ _)); refine blk_far ?_ NB349_346.out _; (with_reducible repeat (first | refine blk_drewN ?_ _ | refine blk_drew ?_ | refine blk_alloc ?_ _)); refine blk_far ?_ NB349_346.out _; (with_reducible repeat (first | refine blk_drewN ?_ _ | refine blk_drew ?_ | refine blk_alloc ?_ _)); exact BK349.out) hb); have n4_ := Aside0.mk (below_step (by repeat (first | (with_reducible first | exact HB.out | apply below_alloc | apply pw_below_drewN | apply below_drew1 | refine below_set ?_ GE346.out | refine below_set ?_ GE347.out | refine below_set ?_ GE348.out | refine below_set ?_ GE349.out) | exact HB.out)) hb); clear BK346; clear BK347; clear BK348; clear BK349; clear HB; have BK346 := n0_; have BK347 := n1_; have BK348 := n2_; have BK349 := n3_; have HB := n4_; clear n0_ n1_ n2_ n3_ n4_; (try clear hb); (try clear hb2); (try clear hk); (try clear hi)))
                  go_ret
                  exact ⟨by first | rfl | (simp [errW_none, errW_some] <;> rfl) | (simp [*, errW_none, errW_some] <;> rfl), by repeat (first | (with_reducible first | exact HB.out | apply below_alloc | apply pw_below_drewN | apply below_drew1 | refine below_set ?_ GE346.out | refine below_set ?_ GE347.out | refine below_set ?_ GE348.out | refine below_set ?_ GE349.out) | exact HB.out)⟩
                · rw [if_neg c18] at H
                  exact absurd H (by simp)
              · rw [if_neg c17] at H
                exact absurd H (by simp)
            · rw [if_neg c16] at H
              exact absurd H (by simp)
          · rw [if_neg c15] at H
            exact absurd H (by simp)
        · rw [if_neg c14] at H
          exact absurd H (by simp)
      · rw [if_neg c13] at H
        exact absurd H (by simp)
    · rw [if_neg c12] at H
      exact absurd H (by simp)
  · rw [if_neg c11] at H
    exact absurd H (by simp)

end Go.Proofs.YtohfidjbnmlfeaaDoor.P

namespace Go.Proofs.YtohfidjbnmlfeaaDoor.P
open Go.RowKit Go.Proofs.YtohfidjbnmlfeaaDoorW.PrintWords Go.Proofs.YtohfidjbnmlfeaaDoorW.PrintLast Go.Proofs.YtohfidjbnmlfeaaDoorW.PrintMore
attribute [local go_sem] max2_int min2_int max_two min_two max_three min_three max_four min_four   -- for this text's walks alone
set_option linter.unusedVariables false
set_option linter.unusedSimpArgs false

/-! ### pannierlaw01_NumTexts: function 8 -/
def pannierlaw01_NumTexts.f (k : Nat) (a0 : Int) (a1 : ByteArray) : Option (Bool) := if (a1.size : Int) > 2000 then ((pannierlaw01_wakes.f k).bind fun t280 => (some t280)) else ((num_Parse.f a1).bind fun bt281 => ((pannierref01_Parse.f k a1).bind fun bt283 => ((num_Dec.f a0).bind fun t286 => ((num_Parse.f t286).bind fun bt287 => ((num_Dec.f a0).bind fun t289 => ((pannierref01_Dec.f k a0).bind fun t290 => (if t289.toList = t290.toList then (if bt281.1 = bt283.1 then (if (bt281.2 == bt283.2) = true then (if bt287.2 = true then (if bt287.1 = a0 then ((pannierlaw01_wakes.f k).bind fun t291 => (some t291)) else (none)) else (none)) else (none)) else (none)) else (none))))))))
theorem pannierlaw01_NumTexts.mono : ∀ a0 a1 k, LeO (pannierlaw01_NumTexts.f k a0 a1) (pannierlaw01_NumTexts.f (k + 1) a0 a1) := by
  intro a0 a1 k
  unfold pannierlaw01_NumTexts.f
  repeat' first
      | (with_reducible exact pannierlaw01_wakes.mono _)
      | (with_reducible exact pannierref01_Dec.mono _ _)
      | (with_reducible exact pannierref01_Parse.mono _ _)
      | (with_reducible exact LeO.refl _)
      | (with_reducible exact LeO.none _)
      | (with_reducible refine LeO.ite ?_ ?_)
      | (with_reducible refine LeO.bind ?_ (fun _ => ?_))
      | exact pannierlaw01_wakes.mono _
      | exact pannierref01_Dec.mono _ _
      | exact pannierref01_Parse.mono _ _
      | exact LeO.none _
      | refine LeO.ite ?_ ?_
      | refine LeO.bind ?_ (fun _ => ?_)
set_option maxHeartbeats 8000000 in
set_option maxRecDepth 100000 in
theorem pannierlaw01_NumTexts.calls (k : Nat) (a0 : Int) (a1 : ByteArray) (r : Bool) (w : World) (hG : G2 w) (h : pannierlaw01_NumTexts.f k a0 a1 = some r) :
    Calls Tryd.prog 8 #[.int .i64 a0, .string a1] w fun e w' => e = .returned (.bool r) ∧ Below w.heap.size w w' := by
  have hu57 := Tryd.underlying57
  have HB := Aside0.mk (Below.refl w.heap.size w)
  have H : (if (a1.size : Int) > 2000 then ((pannierlaw01_wakes.f k).bind fun t280 => (some t280)) else ((num_Parse.f a1).bind fun bt281 => ((pannierref01_Parse.f k a1).bind fun bt283 => ((num_Dec.f a0).bind fun t286 => ((num_Parse.f t286).bind fun bt287 => ((num_Dec.f a0).bind fun t289 => ((pannierref01_Dec.f k a0).bind fun t290 => (if t289.toList = t290.toList then (if bt281.1 = bt283.1 then (if (bt281.2 == bt283.2) = true then (if bt287.2 = true then (if bt287.1 = a0 then ((pannierlaw01_wakes.f k).bind fun t291 => (some t291)) else (none)) else (none)) else (none)) else (none)) else (none))))))))) = some r := h
  clear h
  by_cases c3 : (a1.size : Int) > 2000
  · rw [if_pos c3] at H
    have c3b0 : decide (2000 < (a1.size : Int)) = true := decide_eq_true c3
    have c3b1 : decide (2000 < a1.size) = true := decide_eq_true (by omega)
    clear c3
    replace H := Option.bind_eq_some_iff.mp H
    obtain ⟨t280, A40, H⟩ := H
    replace H : (some t280) = some r := H
    have A4 := Aside0.mk A40
    clear A40
    obtain rfl := Option.some.inj H
    go_enter Tryd.func8, Tryd.ntmps8
    go_wp2_with (first | ((with_reducible refine gate_callee (f := 34) rfl ?_); refine goesL_ (some 13) rfl rfl Tryd.func34 (by kernel_rfl) rfl #[] rfl (by (try simp only [List.map_toArray, List.map_cons, List.map_nil]); first | done | rfl | (simp only [List.length_drop, List.length_take]; rfl)) ?_; (with_reducible refine (pannierlaw01_wakes.calls k  t280 _ ?side1 A4.out).mono ?_); (case side1 => exact gl_2_2 (by repeat (first | (with_reducible first | exact HB.out | apply below_alloc | apply pw_below_drewN | apply below_drew1) | exact HB.out)) hG); rintro e w5 ⟨rfl, hb⟩; refine ⟨_, rfl, ?_⟩; have n0_ := Aside0.mk (below_step (by repeat (first | (with_reducible first | exact HB.out | apply below_alloc | apply pw_below_drewN | apply below_drew1) | exact HB.out)) hb); clear HB; have HB := n0_; clear n0_; (try clear hb); (try clear hb2); (try clear hk); (try clear hi)))
    go_ret
    exact ⟨by first | rfl | (simp [errW_none, errW_some] <;> rfl) | (simp [*, errW_none, errW_some] <;> rfl), by repeat (first | (with_reducible first | exact HB.out | apply below_alloc | apply pw_below_drewN | apply below_drew1) | exact HB.out)⟩
  · rw [if_neg c3] at H
    have c3b0 : decide (2000 < (a1.size : Int)) = false := decide_eq_false c3
    have c3b1 : decide (2000 < a1.size) = false := decide_eq_false (by omega)
    clear c3
    replace H := Option.bind_eq_some_iff.mp H
    obtain ⟨⟨t281, t282⟩, A60, H⟩ := H
    replace H : ((pannierref01_Parse.f k a1).bind fun bt283 => ((num_Dec.f a0).bind fun t286 => ((num_Parse.f t286).bind fun bt287 => ((num_Dec.f a0).bind fun t289 => ((pannierref01_Dec.f k a0).bind fun t290 => (if t289.toList = t290.toList then (if t281 = bt283.1 then (if (t282 == bt283.2) = true then (if bt287.2 = true then (if bt287.1 = a0 then ((pannierlaw01_wakes.f k).bind fun t291 => (some t291)) else (none)) else (none)) else (none)) else (none)) else (none))))))) = some r := H
    have A6 := Aside0.mk A60
    clear A60
    replace H := Option.bind_eq_some_iff.mp H
    obtain ⟨⟨t283, t284⟩, A70, H⟩ := H
    replace H : ((num_Dec.f a0).bind fun t286 => ((num_Parse.f t286).bind fun bt287 => ((num_Dec.f a0).bind fun t289 => ((pannierref01_Dec.f k a0).bind fun t290 => (if t289.toList = t290.toList then (if t281 = t283 then (if (t282 == t284) = true then (if bt287.2 = true then (if bt287.1 = a0 then ((pannierlaw01_wakes.f k).bind fun t291 => (some t291)) else (none)) else (none)) else (none)) else (none)) else (none)))))) = some r := H
    have A7 := Aside0.mk A70
    clear A70
    replace H := Option.bind_eq_some_iff.mp H
    obtain ⟨t286, A80, H⟩ := H
    replace H : ((num_Parse.f t286).bind fun bt287 => ((num_Dec.f a0).bind fun t289 => ((pannierref01_Dec.f k a0).bind fun t290 => (if t289.toList = t290.toList then (if t281 = t283 then (if (t282 == t284) = true then (if bt287.2 = true then (if bt287.1 = a0 then ((pannierlaw01_wakes.f k).bind fun t291 => (some t291)) else (none)) else (none)) else (none)) else (none)) else (none))))) = some r := H
    have A8 := Aside0.mk A80
    clear A80
    replace H := Option.bind_eq_some_iff.mp H
    obtain ⟨⟨t287, t288⟩, A90, H⟩ := H
    replace H : ((num_Dec.f a0).bind fun t289 => ((pannierref01_Dec.f k a0).bind fun t290 => (if t289.toList = t290.toList then (if t281 = t283 then (if (t282 == t284) = true then (if t288 = true then (if t287 = a0 then ((pannierlaw01_wakes.f k).bind fun t291 => (some t291)) else (none)) else (none)) else (none)) else (none)) else (none)))) = some r := H
    have A9 := Aside0.mk A90
    clear A90
    replace H := Option.bind_eq_some_iff.mp H
    obtain ⟨t289, A100, H⟩ := H
    replace H : ((pannierref01_Dec.f k a0).bind fun t290 => (if t289.toList = t290.toList then (if t281 = t283 then (if (t282 == t284) = true then (if t288 = true then (if t287 = a0 then ((pannierlaw01_wakes.f k).bind fun t291 => (some t291)) else (none)) else (none)) else (none)) else (none)) else (none))) = some r := H
    have A10 := Aside0.mk A100
    clear A100
    replace H := Option.bind_eq_some_iff.mp H
    obtain ⟨t290, A110, H⟩ := H
    replace H : (if t289.toList = t290.toList then (if t281 = t283 then (if (t282 == t284) = true then (if t288 = true then (if t287 = a0 then ((pannierlaw01_wakes.f k).bind fun t291 => (some t291)) else (none)) else (none)) else (none)) else (none)) else (none)) = some r := H
    have A11 := Aside0.mk A110
    clear A110
    by_cases c12 : t289.toList = t290.toList
    · rw [if_pos c12] at H
      have c12b0 : (t289.toList == t290.toList) = true := beq_iff_eq.mpr c12
      have c12b1 : (t289.toList != t290.toList) = false := bne_eq_false_iff_eq.mpr c12
      clear c12
      by_cases c13 : t281 = t283
      · rw [if_pos c13] at H
        have c13b0 : (t281 == t283) = true := beq_iff_eq.mpr c13
        have c13b1 : (t281 != t283) = false := bne_eq_false_iff_eq.mpr c13
        clear c13
        by_cases c14 : (t282 == t284) = true
        · rw [if_pos c14] at H
          have c14b0 : (t282 == t284) = true := c14
          (try (have c14b1 : decide (t282 = t284) = true := by simpa using c14))
          (try (have c14b2 : (t282 == t284) = true := by simpa using c14))
          clear c14
          by_cases c15 : t288 = true
          · subst c15
            have H1 : (if t287 = a0 then ((pannierlaw01_wakes.f k).bind fun t291 => (some t291)) else (none)) = some r := by rw [if_pos rfl] at H; exact H
            clear H
            have H := H1
            clear H1
            by_cases c16 : t287 = a0
            · rw [if_pos c16] at H
              have c16b0 : (t287 == a0) = true := beq_iff_eq.mpr c16
              have c16b1 : (t287 != a0) = false := bne_eq_false_iff_eq.mpr c16
              clear c16
              replace H := Option.bind_eq_some_iff.mp H
              obtain ⟨t291, A170, H⟩ := H
              replace H : (some t291) = some r := H
              have A17 := Aside0.mk A170
              clear A170
              obtain rfl := Option.some.inj H
              go_enter Tryd.func8, Tryd.ntmps8
              go_wp2_with (first | ((with_reducible refine gate_callee (f := 35) rfl ?_); refine goesL_ (some 16) rfl rfl Tryd.func35 (by kernel_rfl) rfl #[.string a1] rfl (by (try simp only [List.map_toArray, List.map_cons, List.map_nil]); first | done | rfl | (simp only [List.length_drop, List.length_take]; rfl)) ?_; (with_reducible refine (num_Parse.calls a1 t281 t282 _ ?side1 A6.out).mono ?_); (case side1 => exact gl_2_2 (by repeat (first | (with_reducible first | exact HB.out | apply below_alloc | apply pw_below_drewN | apply below_drew1) | exact HB.out)) hG); rintro e w18 ⟨rfl, hb⟩; refine ⟨_, rfl, ?_⟩; have n0_ := Aside0.mk (below_step (by repeat (first | (with_reducible first | exact HB.out | apply below_alloc | apply pw_below_drewN | apply below_drew1) | exact HB.out)) hb); clear HB; have HB := n0_; clear n0_; (try clear hb); (try clear hb2); (try clear hk); (try clear hi)) | ((with_reducible refine gate_callee (f := 36) rfl ?_); refine goesL_ (some 20) rfl rfl Tryd.func36 (by kernel_rfl) rfl #[.string a1] rfl (by (try simp only [List.map_toArray, List.map_cons, List.map_nil]); first | done | rfl | (simp only [List.length_drop, List.length_take]; rfl)) ?_; (with_reducible refine (pannierref01_Parse.calls k a1 t283 t284 _ A7.out).mono ?_); rintro e w19 ⟨rfl, hb⟩; refine ⟨_, rfl, ?_⟩; have n0_ := Aside0.mk (below_step (by repeat (first | (with_reducible first | exact HB.out | apply below_alloc | apply pw_below_drewN | apply below_drew1) | exact HB.out)) hb); clear HB; have HB := n0_; clear n0_; (try clear hb); (try clear hb2); (try clear hk); (try clear hi)) | ((with_reducible refine gate_dst (N := 7) rfl ?_); refine box_event ?hg (N := 7) ?hd (cs := #[.int .i64 0, .bool false]) (t := 57) ?hr ?_; (case hd => rfl); (case hg => rfl); (case hr => first | (go_simp; done) | (go_simp; rfl)); intro gb285 hg w20 hbox hb; have n0_ := Aside0.mk (below_step (by repeat (first | (with_reducible first | exact HB.out | apply below_alloc | apply pw_below_drewN | apply below_drew1) | exact HB.out)) hb); have n1_ := Aside0.mk (hbox); have n2_ := Aside0.mk ((by rw [hg]; exact (below_size (by repeat (first | (with_reducible first | exact HB.out | apply below_alloc | apply pw_below_drewN | apply below_drew1) | exact HB.out))) : w.heap.size ≤ gb285)); have n3_ := Aside0.mk ((by rw [hg]; exact (below_size (by repeat (first | (with_reducible first | exact HB.out | apply below_alloc | apply pw_below_drewN | apply below_drew1) | exact HB.out))) : w.heap.size ≤ gb285)); clear HB; have HB := n0_; have BK285 := n1_; have GW285 := n2_; have GE285 := n3_; clear n0_ n1_ n2_ n3_; clear hb hbox hg; have hcz21_0 : w20.cell? ⟨gb285, 0, none⟩ = some (.int .i64 0) := (blk_cell BK285.out 0).trans rfl; have hcz21_1 : w20.cell? ⟨gb285, 1, none⟩ = some (.bool false) := (blk_cell BK285.out 1).trans rfl; have hfz21_0 := blk_frozen BK285.out 0; have hfz21_1 := blk_frozen BK285.out 1) | ((with_reducible refine gate_callee (f := 37) rfl ?_); refine goesL_ (some 23) rfl rfl Tryd.func37 (by kernel_rfl) rfl #[.int .i64 a0] rfl (by (try simp only [List.map_toArray, List.map_cons, List.map_nil]); first | done | rfl | (simp only [List.length_drop, List.length_take]; rfl)) ?_; (with_reducible refine (num_Dec.calls a0 t286 _ ?side1 A8.out).mono ?_); (case side1 => exact gl_2_1 (by repeat (first | (with_reducible first | exact HB.out | apply below_alloc | apply pw_below_drewN | apply below_drew1 | refine below_set ?_ GE285.out) | exact HB.out)) hG); rintro e w22 ⟨rfl, hb⟩; refine ⟨_, rfl, ?_⟩; have n0_ := Aside0.mk (blk_below (g := gb285) (o := .cells #[.int .i64 t283, .bool t284] 57 (0, 0)) (by (with_reducible repeat (first | refine blk_drewN ?_ _ | refine blk_drew ?_ | refine blk_alloc ?_ _)); refine blk_put (cs := #[.int .i64 t283, .bool false]) ?_ 1 _ rfl; (with_reducible repeat (first | refine blk_drewN ?_ _ | refine blk_drew ?_ | refine blk_alloc ?_ _)); refine blk_put (cs := #[.int .i64 0, .bool false]) ?_ 0 _ rfl; (with_reducible repeat (first | refine blk_drewN ?_ _ | refine blk_drew ?_ | refine blk_alloc ?_ _)); exact BK285.out) hb); have n1_ := Aside0.mk (below_step (by repeat (first | (with_reducible first | exact HB.out | apply below_alloc | apply pw_below_drewN | apply below_drew1 | refine below_set ?_ GE285.out) | exact HB.out)) hb); clear BK285; clear HB; have BK285 := n0_; have HB := n1_; clear n0_ n1_; (try clear hb); (try clear hb2); (try clear hk); (try clear hi)) | ((with_reducible refine gate_callee (f := 35) rfl ?_); refine goesL_ (some 24) rfl rfl Tryd.func35 (by kernel_rfl) rfl #[.string t286] rfl (by (try simp only [List.map_toArray, List.map_cons, List.map_nil]); first | done | rfl | (simp only [List.length_drop, List.length_take]; rfl)) ?_; (with_reducible refine (num_Parse.calls t286 t287 true _ ?side1 A9.out).mono ?_); (case side1 => exact gl_2_2 (by repeat (first | (with_reducible first | exact HB.out | apply below_alloc | apply pw_below_drewN | apply below_drew1 | refine below_set ?_ GE285.out) | exact HB.out)) hG); rintro e w23 ⟨rfl, hb⟩; refine ⟨_, rfl, ?_⟩; have n0_ := Aside0.mk (blk_below (g := gb285) (o := .cells #[.int .i64 t283, .bool t284] 57 (0, 0)) (by (with_reducible repeat (first | refine blk_drewN ?_ _ | refine blk_drew ?_ | refine blk_alloc ?_ _)); exact BK285.out) hb); have n1_ := Aside0.mk (below_step (by repeat (first | (with_reducible first | exact HB.out | apply below_alloc | apply pw_below_drewN | apply below_drew1 | refine below_set ?_ GE285.out) | exact HB.out)) hb); clear BK285; clear HB; have BK285 := n0_; have HB := n1_; clear n0_ n1_; (try clear hb); (try clear hb2); (try clear hk); (try clear hi)) | ((with_reducible refine gate_callee (f := 37) rfl ?_); refine goesL_ (some 28) rfl rfl Tryd.func37 (by kernel_rfl) rfl #[.int .i64 a0] rfl (by (try simp only [List.map_toArray, List.map_cons, List.map_nil]); first | done | rfl | (simp only [List.length_drop, List.length_take]; rfl)) ?_; (with_reducible refine (num_Dec.calls a0 t289 _ ?side1 A10.out).mono ?_); (case side1 => exact gl_2_1 (by repeat (first | (with_reducible first | exact HB.out | apply below_alloc | apply pw_below_drewN | apply below_drew1 | refine below_set ?_ GE285.out) | exact HB.out)) hG); rintro e w24 ⟨rfl, hb⟩; refine ⟨_, rfl, ?_⟩; have n0_ := Aside0.mk (blk_below (g := gb285) (o := .cells #[.int .i64 t283, .bool t284] 57 (0, 0)) (by (with_reducible repeat (first | refine blk_drewN ?_ _ | refine blk_drew ?_ | refine blk_alloc ?_ _)); exact BK285.out) hb); have n1_ := Aside0.mk (below_step (by repeat (first | (with_reducible first | exact HB.out | apply below_alloc | apply pw_below_drewN | apply below_drew1 | refine below_set ?_ GE285.out) | exact HB.out)) hb); clear BK285; clear HB; have BK285 := n0_; have HB := n1_; clear n0_ n1_; (try clear hb); (try clear hb2); (try clear hk); (try clear hi)) | ((with_reducible refine gate_callee (f := 38) rfl ?_); refine goesL_ (some 30) rfl rfl Tryd.func38 (by kernel_rfl) rfl #[.int .i64 a0] rfl (by (try simp only [List.map_toArray, List.map_cons, List.map_nil]); first | done | rfl | (simp only [List.length_drop, List.length_take]; rfl)) ?_; (with_reducible refine (pannierref01_Dec.calls k a0 t290 _ A11.out).mono ?_); rintro e w' ⟨rfl, ⟨nd, rfl⟩⟩; refine ⟨_, rfl, ?_⟩; have hcz25_0 : w24.cell? ⟨gb285, 0, none⟩ = some (.int .i64 t283) := (blk_cell BK285.out 0).trans rfl; have hcz25_1 : w24.cell? ⟨gb285, 1, none⟩ = some (.bool t284) := (blk_cell BK285.out 1).trans rfl; have hfz25_0 := blk_frozen BK285.out 0; have hfz25_1 := blk_frozen BK285.out 1) | (go_at_call 34; (with_reducible refine (pannierlaw01_wakes.calls k  t291 _ ?side1 A17.out).mono ?_); (case side1 => exact gl_2_2 (by repeat (first | (with_reducible first | exact HB.out | apply below_alloc | apply pw_below_drewN | apply below_drew1 | refine below_set ?_ GE285.out) | exact HB.out)) hG); rintro e w26 ⟨rfl, hb⟩; have n0_ := Aside0.mk (blk_below (g := gb285) (o := .cells #[.int .i64 t283, .bool t284] 57 (0, 0)) (by (with_reducible repeat (first | refine blk_drewN ?_ _ | refine blk_drew ?_ | refine blk_alloc ?_ _)); exact BK285.out) hb); have n1_ := Aside0.mk (below_step (by repeat (first | (with_reducible first | exact HB.out | apply below_alloc | apply pw_below_drewN | apply below_drew1 | refine below_set ?_ GE285.out) | exact HB.out)) hb); clear BK285; clear HB; have BK285 := n0_; have HB := n1_; clear n0_ n1_; (try clear hb); (try clear hb2); (try clear hk); (try clear hi)))
              go_ret
              exact ⟨by first | rfl | (simp [errW_none, errW_some] <;> rfl) | (simp [*, errW_none, errW_some] <;> rfl), by repeat (first | (with_reducible first | exact HB.out | apply below_alloc | apply pw_below_drewN | apply below_drew1 | refine below_set ?_ GE285.out) | exact HB.out)⟩
            · rw [if_neg c16] at H
              exact absurd H (by simp)
          · replace c15 := Bool.eq_false_iff.mpr c15
            subst c15
            have H1 : (none) = some r := by rw [if_neg (show ¬ (false = true) by decide)] at H; exact H
            clear H
            have H := H1
            clear H1
            exact absurd H (by simp)
        · rw [if_neg c14] at H
          exact absurd H (by simp)
      · rw [if_neg c13] at H
        exact absurd H (by simp)
    · rw [if_neg c12] at H
      exact absurd H (by simp)

end Go.Proofs.YtohfidjbnmlfeaaDoor.P
