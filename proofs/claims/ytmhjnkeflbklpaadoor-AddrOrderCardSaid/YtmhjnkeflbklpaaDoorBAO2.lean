/- Contracts of the functions that the law reaches, each with the plain function that it comes to, and plain facts about these. -/
import Derived.WalkSmall
import Derived.Deep.RegionHeld3
import Derived.StillTailTactics
import Derived.Test.YtmhjnkeflbklpaaDoorBAO1
namespace Go.Proofs.YtmhjnkeflbklpaaDoor.P
open Go.RowKit Go.Proofs.YtmhjnkeflbklpaaDoorW.PrintWords Go.Proofs.YtmhjnkeflbklpaaDoorW.PrintLast Go.Proofs.YtmhjnkeflbklpaaDoorW.PrintMore
attribute [local go_sem] max2_int min2_int max_two min_two max_three min_three max_four min_four   -- for this text's walks alone
set_option linter.unusedVariables false
set_option linter.unusedSimpArgs false

attribute [local go_sem high] eqA25
/-! ### pannierlaw02_wakes: function 10 -/
def pannierlaw02_wakes.f  : Option (Bool) := (addr_Parse.f (⟨#[65, 65, 51]⟩ : ByteArray)).bind fun bt131 => ((addr_Parse.f (⟨#[65, 89, 49]⟩ : ByteArray)).bind fun bt135 => ((addr_Made.f 3 5 7 2).bind fun bt139 => (if bt131.2.2 = true then (if bt135.2.2 = true then (none) else (if bt139.2.2.2.2 = true then (if (bt131.1 == 3 && (bt131.2.1 == 27)) = true then ((addr_Name.f bt131.1 bt131.2.1).bind fun t145 => (if t145.toList = ([65, 65, 51] : List UInt8) then ((addr_Count.f bt139.1 bt139.2.1 bt139.2.2.1 bt139.2.2.2.1).bind fun t146 => (if t146 = 20 then ((addr_Has.f bt139.1 bt139.2.1 bt139.2.2.1 bt139.2.2.2.1 4 4).bind fun t147 => (if t147 = true then ((addr_Good.f bt131.1 bt131.2.1).bind fun t148 => (some t148)) else (none))) else (none))) else (none))) else (none)) else (none))) else (none))))
set_option maxHeartbeats 8000000 in
set_option maxRecDepth 100000 in
theorem pannierlaw02_wakes.calls  (r : Bool) (w : World) (hG : G1 w) (h : pannierlaw02_wakes.f  = some r) :
    Calls Tryd.prog 10 #[] w fun e w' => e = .returned (.bool r) ∧ Below w.heap.size w w' := by
  have hu25 := Tryd.underlying25
  have hu27 := Tryd.underlying27
  have HB := Aside0.mk (Below.refl w.heap.size w)
  have H : ((addr_Parse.f (⟨#[65, 65, 51]⟩ : ByteArray)).bind fun bt131 => ((addr_Parse.f (⟨#[65, 89, 49]⟩ : ByteArray)).bind fun bt135 => ((addr_Made.f 3 5 7 2).bind fun bt139 => (if bt131.2.2 = true then (if bt135.2.2 = true then (none) else (if bt139.2.2.2.2 = true then (if (bt131.1 == 3 && (bt131.2.1 == 27)) = true then ((addr_Name.f bt131.1 bt131.2.1).bind fun t145 => (if t145.toList = ([65, 65, 51] : List UInt8) then ((addr_Count.f bt139.1 bt139.2.1 bt139.2.2.1 bt139.2.2.2.1).bind fun t146 => (if t146 = 20 then ((addr_Has.f bt139.1 bt139.2.1 bt139.2.2.1 bt139.2.2.2.1 4 4).bind fun t147 => (if t147 = true then ((addr_Good.f bt131.1 bt131.2.1).bind fun t148 => (some t148)) else (none))) else (none))) else (none))) else (none)) else (none))) else (none))))) = some r := h
  clear h
  replace H := Option.bind_eq_some_iff.mp H
  obtain ⟨⟨t131, t132, t133⟩, A10, H⟩ := H
  replace H : ((addr_Parse.f (⟨#[65, 89, 49]⟩ : ByteArray)).bind fun bt135 => ((addr_Made.f 3 5 7 2).bind fun bt139 => (if t133 = true then (if bt135.2.2 = true then (none) else (if bt139.2.2.2.2 = true then (if (t131 == 3 && (t132 == 27)) = true then ((addr_Name.f t131 t132).bind fun t145 => (if t145.toList = ([65, 65, 51] : List UInt8) then ((addr_Count.f bt139.1 bt139.2.1 bt139.2.2.1 bt139.2.2.2.1).bind fun t146 => (if t146 = 20 then ((addr_Has.f bt139.1 bt139.2.1 bt139.2.2.1 bt139.2.2.2.1 4 4).bind fun t147 => (if t147 = true then ((addr_Good.f t131 t132).bind fun t148 => (some t148)) else (none))) else (none))) else (none))) else (none)) else (none))) else (none)))) = some r := H
  have A1 := Aside0.mk A10
  clear A10
  replace H := Option.bind_eq_some_iff.mp H
  obtain ⟨⟨t135, t136, t137⟩, A20, H⟩ := H
  replace H : ((addr_Made.f 3 5 7 2).bind fun bt139 => (if t133 = true then (if t137 = true then (none) else (if bt139.2.2.2.2 = true then (if (t131 == 3 && (t132 == 27)) = true then ((addr_Name.f t131 t132).bind fun t145 => (if t145.toList = ([65, 65, 51] : List UInt8) then ((addr_Count.f bt139.1 bt139.2.1 bt139.2.2.1 bt139.2.2.2.1).bind fun t146 => (if t146 = 20 then ((addr_Has.f bt139.1 bt139.2.1 bt139.2.2.1 bt139.2.2.2.1 4 4).bind fun t147 => (if t147 = true then ((addr_Good.f t131 t132).bind fun t148 => (some t148)) else (none))) else (none))) else (none))) else (none)) else (none))) else (none))) = some r := H
  have A2 := Aside0.mk A20
  clear A20
  replace H := Option.bind_eq_some_iff.mp H
  obtain ⟨⟨t139, t140, t141, t142, t143⟩, A30, H⟩ := H
  replace H : (if t133 = true then (if t137 = true then (none) else (if t143 = true then (if (t131 == 3 && (t132 == 27)) = true then ((addr_Name.f t131 t132).bind fun t145 => (if t145.toList = ([65, 65, 51] : List UInt8) then ((addr_Count.f t139 t140 t141 t142).bind fun t146 => (if t146 = 20 then ((addr_Has.f t139 t140 t141 t142 4 4).bind fun t147 => (if t147 = true then ((addr_Good.f t131 t132).bind fun t148 => (some t148)) else (none))) else (none))) else (none))) else (none)) else (none))) else (none)) = some r := H
  have A3 := Aside0.mk A30
  clear A30
  by_cases c4 : t133 = true
  · subst c4
    have H1 : (if t137 = true then (none) else (if t143 = true then (if (t131 == 3 && (t132 == 27)) = true then ((addr_Name.f t131 t132).bind fun t145 => (if t145.toList = ([65, 65, 51] : List UInt8) then ((addr_Count.f t139 t140 t141 t142).bind fun t146 => (if t146 = 20 then ((addr_Has.f t139 t140 t141 t142 4 4).bind fun t147 => (if t147 = true then ((addr_Good.f t131 t132).bind fun t148 => (some t148)) else (none))) else (none))) else (none))) else (none)) else (none))) = some r := by rw [if_pos rfl] at H; exact H
    clear H
    have H := H1
    clear H1
    by_cases c5 : t137 = true
    · subst c5
      have H1 : (none) = some r := by rw [if_pos rfl] at H; exact H
      clear H
      have H := H1
      clear H1
      exact absurd H (by simp)
    · replace c5 := Bool.eq_false_iff.mpr c5
      subst c5
      have H1 : (if t143 = true then (if (t131 == 3 && (t132 == 27)) = true then ((addr_Name.f t131 t132).bind fun t145 => (if t145.toList = ([65, 65, 51] : List UInt8) then ((addr_Count.f t139 t140 t141 t142).bind fun t146 => (if t146 = 20 then ((addr_Has.f t139 t140 t141 t142 4 4).bind fun t147 => (if t147 = true then ((addr_Good.f t131 t132).bind fun t148 => (some t148)) else (none))) else (none))) else (none))) else (none)) else (none)) = some r := by rw [if_neg (show ¬ (false = true) by decide)] at H; exact H
      clear H
      have H := H1
      clear H1
      by_cases c6 : t143 = true
      · subst c6
        have H1 : (if (t131 == 3 && (t132 == 27)) = true then ((addr_Name.f t131 t132).bind fun t145 => (if t145.toList = ([65, 65, 51] : List UInt8) then ((addr_Count.f t139 t140 t141 t142).bind fun t146 => (if t146 = 20 then ((addr_Has.f t139 t140 t141 t142 4 4).bind fun t147 => (if t147 = true then ((addr_Good.f t131 t132).bind fun t148 => (some t148)) else (none))) else (none))) else (none))) else (none)) = some r := by rw [if_pos rfl] at H; exact H
        clear H
        have H := H1
        clear H1
        by_cases c7 : (t131 == 3 && (t132 == 27)) = true
        · rw [if_pos c7] at H
          have c7b0 : (t131 == 3 && (t132 == 27)) = true := c7
          (try (have c7b1 : decide (t131 = 3 && (t132 == 27)) = true := by simpa using c7))
          (try (have c7b2 : (t131 == 3 && (t132 == 27)) = true := by simpa using c7))
          clear c7
          replace H := Option.bind_eq_some_iff.mp H
          obtain ⟨t145, A80, H⟩ := H
          replace H : (if t145.toList = ([65, 65, 51] : List UInt8) then ((addr_Count.f t139 t140 t141 t142).bind fun t146 => (if t146 = 20 then ((addr_Has.f t139 t140 t141 t142 4 4).bind fun t147 => (if t147 = true then ((addr_Good.f t131 t132).bind fun t148 => (some t148)) else (none))) else (none))) else (none)) = some r := H
          have A8 := Aside0.mk A80
          clear A80
          by_cases c9 : t145.toList = ([65, 65, 51] : List UInt8)
          · rw [if_pos c9] at H
            have c9b0 : (t145.toList == ([65, 65, 51] : List UInt8)) = true := beq_iff_eq.mpr c9
            have c9b1 : (t145.toList != ([65, 65, 51] : List UInt8)) = false := bne_eq_false_iff_eq.mpr c9
            clear c9
            replace H := Option.bind_eq_some_iff.mp H
            obtain ⟨t146, A100, H⟩ := H
            replace H : (if t146 = 20 then ((addr_Has.f t139 t140 t141 t142 4 4).bind fun t147 => (if t147 = true then ((addr_Good.f t131 t132).bind fun t148 => (some t148)) else (none))) else (none)) = some r := H
            have A10 := Aside0.mk A100
            clear A100
            by_cases c11 : t146 = 20
            · rw [if_pos c11] at H
              have c11b0 : (t146 == 20) = true := beq_iff_eq.mpr c11
              have c11b1 : (t146 != 20) = false := bne_eq_false_iff_eq.mpr c11
              clear c11
              replace H := Option.bind_eq_some_iff.mp H
              obtain ⟨t147, A120, H⟩ := H
              replace H : (if t147 = true then ((addr_Good.f t131 t132).bind fun t148 => (some t148)) else (none)) = some r := H
              have A12 := Aside0.mk A120
              clear A120
              by_cases c13 : t147 = true
              · subst c13
                have H1 : ((addr_Good.f t131 t132).bind fun t148 => (some t148)) = some r := by rw [if_pos rfl] at H; exact H
                clear H
                have H := H1
                clear H1
                replace H := Option.bind_eq_some_iff.mp H
                obtain ⟨t148, A140, H⟩ := H
                replace H : (some t148) = some r := H
                have A14 := Aside0.mk A140
                clear A140
                obtain rfl := Option.some.inj H
                go_enter Tryd.func10, Tryd.ntmps10
                go_wp2_with (first | ((with_reducible refine gate_callee (f := 26) rfl ?_); refine goesL_ (some 8) rfl rfl Tryd.func26 (by kernel_rfl) rfl #[.string (⟨#[65, 65, 51]⟩ : ByteArray)] rfl (by (try simp only [List.map_toArray, List.map_cons, List.map_nil]); first | done | rfl | (simp only [List.length_drop, List.length_take]; rfl)) ?_; (with_reducible refine (addr_Parse.calls (⟨#[65, 65, 51]⟩ : ByteArray) t131 t132 true _ ?side1 A1.out).mono ?_); (case side1 => exact gl_1_1 (by repeat (first | (with_reducible first | exact HB.out | apply below_alloc | apply pw_below_drewN | apply below_drew1) | exact HB.out)) hG); rintro e w15 ⟨rfl, hb⟩; refine ⟨_, rfl, ?_⟩; have n0_ := Aside0.mk (below_step (by repeat (first | (with_reducible first | exact HB.out | apply below_alloc | apply pw_below_drewN | apply below_drew1) | exact HB.out)) hb); clear HB; have HB := n0_; clear n0_; (try clear hb); (try clear hb2); (try clear hk); (try clear hi)) | ((with_reducible refine gate_dst (N := 1) rfl ?_); refine box_event ?hg (N := 1) ?hd (cs := #[.int .i64 0, .int .i64 0]) (t := 25) ?hr ?_; (case hd => rfl); (case hg => rfl); (case hr => first | (go_simp; done) | (go_simp; rfl)); intro gb134 hg w16 hbox hb; have n0_ := Aside0.mk (below_step (by repeat (first | (with_reducible first | exact HB.out | apply below_alloc | apply pw_below_drewN | apply below_drew1) | exact HB.out)) hb); have n1_ := Aside0.mk (hbox); have n2_ := Aside0.mk ((by rw [hg]; exact (below_size (by repeat (first | (with_reducible first | exact HB.out | apply below_alloc | apply pw_below_drewN | apply below_drew1) | exact HB.out))) : w.heap.size ≤ gb134)); have n3_ := Aside0.mk ((by rw [hg]; exact (below_size (by repeat (first | (with_reducible first | exact HB.out | apply below_alloc | apply pw_below_drewN | apply below_drew1) | exact HB.out))) : w.heap.size ≤ gb134)); clear HB; have HB := n0_; have BK134 := n1_; have GW134 := n2_; have GE134 := n3_; clear n0_ n1_ n2_ n3_; clear hb hbox hg; have hcz17_0 : w16.cell? ⟨gb134, 0, none⟩ = some (.int .i64 0) := (blk_cell BK134.out 0).trans rfl; have hcz17_1 : w16.cell? ⟨gb134, 1, none⟩ = some (.int .i64 0) := (blk_cell BK134.out 1).trans rfl; have hfz17_0 := blk_frozen BK134.out 0; have hfz17_1 := blk_frozen BK134.out 1) | ((with_reducible refine gate_callee (f := 26) rfl ?_); refine goesL_ (some 12) rfl rfl Tryd.func26 (by kernel_rfl) rfl #[.string (⟨#[65, 89, 49]⟩ : ByteArray)] rfl (by (try simp only [List.map_toArray, List.map_cons, List.map_nil]); first | done | rfl | (simp only [List.length_drop, List.length_take]; rfl)) ?_; (with_reducible refine (addr_Parse.calls (⟨#[65, 89, 49]⟩ : ByteArray) t135 t136 false _ ?side1 A2.out).mono ?_); (case side1 => exact gl_1_1 (by repeat (first | (with_reducible first | exact HB.out | apply below_alloc | apply pw_below_drewN | apply below_drew1 | refine below_set ?_ GE134.out) | exact HB.out)) hG); rintro e w18 ⟨rfl, hb⟩; refine ⟨_, rfl, ?_⟩; have n0_ := Aside0.mk (blk_below (g := gb134) (o := .cells #[.int .i64 t131, .int .i64 t132] 25 (0, 0)) (by (with_reducible repeat (first | refine blk_drewN ?_ _ | refine blk_drew ?_ | refine blk_alloc ?_ _)); refine blk_put (cs := #[.int .i64 t131, .int .i64 0]) ?_ 1 _ rfl; (with_reducible repeat (first | refine blk_drewN ?_ _ | refine blk_drew ?_ | refine blk_alloc ?_ _)); refine blk_put (cs := #[.int .i64 0, .int .i64 0]) ?_ 0 _ rfl; (with_reducible repeat (first | refine blk_drewN ?_ _ | refine blk_drew ?_ | refine blk_alloc ?_ _)); exact BK134.out) hb); have n1_ := Aside0.mk (below_step (by repeat (first | (with_reducible first | exact HB.out | apply below_alloc | apply pw_below_drewN | apply below_drew1 | refine below_set ?_ GE134.out) | exact HB.out)) hb); clear BK134; clear HB; have BK134 := n0_; have HB := n1_; clear n0_ n1_; (try clear hb); (try clear hb2); (try clear hk); (try clear hi)) | ((with_reducible refine gate_dst (N := 3) rfl ?_); refine box_event ?hg (N := 3) ?hd (cs := #[.int .i64 0, .int .i64 0]) (t := 25) ?hr ?_; (case hd => rfl); (case hg => rfl); (case hr => first | (go_simp; done) | (go_simp; rfl)); intro gb138 hg w19 hbox hb; have n0_ := Aside0.mk (blk_below (g := gb134) (o := .cells #[.int .i64 t131, .int .i64 t132] 25 (0, 0)) (by (with_reducible repeat (first | refine blk_drewN ?_ _ | refine blk_drew ?_ | refine blk_alloc ?_ _)); exact BK134.out) hb); have n1_ := Aside0.mk (below_step (by repeat (first | (with_reducible first | exact HB.out | apply below_alloc | apply pw_below_drewN | apply below_drew1 | refine below_set ?_ GE134.out) | exact HB.out)) hb); have n2_ := Aside0.mk (hbox); have n3_ := Aside0.mk ((by rw [hg]; exact (below_size (by repeat (first | (with_reducible first | exact HB.out | apply below_alloc | apply pw_below_drewN | apply below_drew1 | refine below_set ?_ GE134.out) | exact HB.out))) : w.heap.size ≤ gb138)); have n4_ := Aside0.mk ((by rw [hg]; exact (below_size (by repeat (first | (with_reducible first | exact HB.out | apply below_alloc | apply pw_below_drewN | apply below_drew1 | refine below_set ?_ GE134.out) | exact HB.out))) : w.heap.size ≤ gb138)); have n5_ := Aside0.mk ((by rw [hg]; exact Nat.ne_of_lt (blk_lt (g := gb134) (o := .cells #[.int .i64 t131, .int .i64 t132] 25 (0, 0)) (by (with_reducible repeat (first | refine blk_drewN ?_ _ | refine blk_drew ?_ | refine blk_alloc ?_ _)); exact BK134.out)) : gb134 ≠ gb138)); have n6_ := Aside0.mk ((by rw [hg]; exact Nat.ne_of_gt (blk_lt (g := gb134) (o := .cells #[.int .i64 t131, .int .i64 t132] 25 (0, 0)) (by (with_reducible repeat (first | refine blk_drewN ?_ _ | refine blk_drew ?_ | refine blk_alloc ?_ _)); exact BK134.out)) : gb138 ≠ gb134)); clear BK134; clear HB; have BK134 := n0_; have HB := n1_; have BK138 := n2_; have GW138 := n3_; have GE138 := n4_; have NB134_138 := n5_; have NB138_134 := n6_; clear n0_ n1_ n2_ n3_ n4_ n5_ n6_; clear hb hbox hg; have hnb20 := NB138_134.out; have hnc20 := NB134_138.out; have hcz21_0 : w19.cell? ⟨gb138, 0, none⟩ = some (.int .i64 0) := (blk_cell BK138.out 0).trans rfl; have hcz21_1 : w19.cell? ⟨gb138, 1, none⟩ = some (.int .i64 0) := (blk_cell BK138.out 1).trans rfl; have hfz21_0 := blk_frozen BK138.out 0; have hfz21_1 := blk_frozen BK138.out 1) | ((with_reducible refine gate_callee (f := 6) rfl ?_); refine goesL_ (some 18) rfl rfl Tryd.func6 (by kernel_rfl) rfl #[.agg #[.int .i64 3, .int .i64 5], .agg #[.int .i64 7, .int .i64 2]] rfl (by (try simp only [List.map_toArray, List.map_cons, List.map_nil]); first | done | rfl | (simp only [List.length_drop, List.length_take]; rfl)) ?_; (with_reducible refine (addr_Made.calls 3 5 7 2 t139 t140 t141 t142 true _ A3.out).mono ?_); rintro e w22 ⟨rfl, hb⟩; refine ⟨_, rfl, ?_⟩; have n0_ := Aside0.mk (blk_below (g := gb134) (o := .cells #[.int .i64 t131, .int .i64 t132] 25 (0, 0)) (by (with_reducible repeat (first | refine blk_drewN ?_ _ | refine blk_drew ?_ | refine blk_alloc ?_ _)); refine blk_far ?_ NB134_138.out _; (with_reducible repeat (first | refine blk_drewN ?_ _ | refine blk_drew ?_ | refine blk_alloc ?_ _)); refine blk_far ?_ NB134_138.out _; (with_reducible repeat (first | refine blk_drewN ?_ _ | refine blk_drew ?_ | refine blk_alloc ?_ _)); exact BK134.out) hb); have n1_ := Aside0.mk (blk_below (g := gb138) (o := .cells #[.int .i64 t135, .int .i64 t136] 25 (0, 0)) (by (with_reducible repeat (first | refine blk_drewN ?_ _ | refine blk_drew ?_ | refine blk_alloc ?_ _)); refine blk_put (cs := #[.int .i64 t135, .int .i64 0]) ?_ 1 _ rfl; (with_reducible repeat (first | refine blk_drewN ?_ _ | refine blk_drew ?_ | refine blk_alloc ?_ _)); refine blk_put (cs := #[.int .i64 0, .int .i64 0]) ?_ 0 _ rfl; (with_reducible repeat (first | refine blk_drewN ?_ _ | refine blk_drew ?_ | refine blk_alloc ?_ _)); exact BK138.out) hb); have n2_ := Aside0.mk (below_step (by repeat (first | (with_reducible first | exact HB.out | apply below_alloc | apply pw_below_drewN | apply below_drew1 | refine below_set ?_ GE134.out | refine below_set ?_ GE138.out) | exact HB.out)) hb); clear BK134; clear BK138; clear HB; have BK134 := n0_; have BK138 := n1_; have HB := n2_; clear n0_ n1_ n2_; (try clear hb); (try clear hb2); (try clear hk); (try clear hi)) | ((with_reducible refine gate_dst (N := 5) rfl ?_); refine box_event ?hg (N := 5) ?hd (cs := #[.int .i64 0, .int .i64 0, .int .i64 0, .int .i64 0]) (t := 27) ?hr ?_; (case hd => rfl); (case hg => rfl); (case hr => first | (go_simp; done) | (go_simp; rfl)); intro gb144 hg w23 hbox hb; have n0_ := Aside0.mk (blk_below (g := gb134) (o := .cells #[.int .i64 t131, .int .i64 t132] 25 (0, 0)) (by (with_reducible repeat (first | refine blk_drewN ?_ _ | refine blk_drew ?_ | refine blk_alloc ?_ _)); exact BK134.out) hb); have n1_ := Aside0.mk (blk_below (g := gb138) (o := .cells #[.int .i64 t135, .int .i64 t136] 25 (0, 0)) (by (with_reducible repeat (first | refine blk_drewN ?_ _ | refine blk_drew ?_ | refine blk_alloc ?_ _)); exact BK138.out) hb); have n2_ := Aside0.mk (below_step (by repeat (first | (with_reducible first | exact HB.out | apply below_alloc | apply pw_below_drewN | apply below_drew1 | refine below_set ?_ GE134.out | refine below_set ?_ GE138.out) | exact HB.out)) hb); have n3_ := Aside0.mk (hbox); have n4_ := Aside0.mk ((by rw [hg]; exact (below_size (by repeat (first | (with_reducible first | exact HB.out | apply below_alloc | apply pw_below_drewN | apply below_drew1 | refine below_set ?_ GE134.out | refine below_set ?_ GE138.out) | exact HB.out))) : w.heap.size ≤ gb144)); have n5_ := Aside0.mk ((by rw [hg]; exact (below_size (by repeat (first | (with_reducible first | exact HB.out | apply below_alloc | apply pw_below_drewN | apply below_drew1 | refine below_set ?_ GE134.out | refine below_set ?_ GE138.out) | exact HB.out))) : w.heap.size ≤ gb144)); have n6_ := Aside0.mk ((by rw [hg]; exact Nat.ne_of_lt (blk_lt (g := gb134) (o := .cells #[.int .i64 t131, .int .i64 t132] 25 (0, 0)) (by (with_reducible repeat (first | refine blk_drewN ?_ _ | refine blk_drew ?_ | refine blk_alloc ?_ _)); exact BK134.out)) : gb134 ≠ gb144)); have n7_ := Aside0.mk ((by rw [hg]; exact Nat.ne_of_gt (blk_lt (g := gb134) (o := .cells #[.int .i64 t131, .int .i64 t132] 25 (0, 0)) (by (with_reducible repeat (first | refine blk_drewN ?_ _ | refine blk_drew ?_ | refine blk_alloc ?_ _)); exact BK134.out)) : gb144 ≠ gb134)); have n8_ := Aside0.mk ((by rw [hg]; exact Nat.ne_of_lt (blk_lt (g := gb138) (o := .cells #[.int .i64 t135, .int .i64 t136] 25 (0, 0)) (by (with_reducible repeat (first | refine blk_drewN ?_ _ | refine blk_drew ?_ | refine blk_alloc ?_ _)); exact BK138.out)) : gb138 ≠ gb144)); have n9_ := Aside0.mk ((by rw [hg]; exact Nat.ne_of_gt (blk_lt (g := gb138) (o := .cells #[.int .i64 t135, .int .i64 t136] 25 (0, 0)) (by (with_reducible repeat (first | refine blk_drewN ?_ _ | refine blk_drew ?_ | refine blk_alloc ?_ _)); exact BK138.out)) : gb144 ≠ gb138)); clear BK134; clear BK138; clear HB; have BK134 := n0_; have BK138 := n1_; have HB := n2_; have BK144 := n3_; have GW144 := n4_; have GE144 := n5_; have NB134_144 := n6_; have NB144_134 := n7_; have NB138_144 := n8_; have NB144_138 := n9_; clear n0_ n1_ n2_ n3_ n4_ n5_ n6_ n7_ n8_ n9_; clear hb hbox hg; have hnb24 := NB144_134.out; have hnc24 := NB134_144.out; have hnb25 := NB144_138.out; have hnc25 := NB138_144.out; have hcz26_0 : w23.cell? ⟨gb144, 0, none⟩ = some (.int .i64 0) := (blk_cell BK144.out 0).trans rfl; have hcz26_1 : w23.cell? ⟨gb144, 1, none⟩ = some (.int .i64 0) := (blk_cell BK144.out 1).trans rfl; have hcz26_2 : w23.cell? ⟨gb144, 2, none⟩ = some (.int .i64 0) := (blk_cell BK144.out 2).trans rfl; have hcz26_3 : w23.cell? ⟨gb144, 3, none⟩ = some (.int .i64 0) := (blk_cell BK144.out 3).trans rfl; have hfz26_0 := blk_frozen BK144.out 0; have hfz26_1 := blk_frozen BK144.out 1; have hfz26_2 := blk_frozen BK144.out 2; have hfz26_3 := blk_frozen BK144.out 3; have hcz27_0 : w23.cell? ⟨gb134, 0, none⟩ = some (.int .i64 t131) := (blk_cell BK134.out 0).trans rfl; have hcz27_1 : w23.cell? ⟨gb134, 1, none⟩ = some (.int .i64 t132) := (blk_cell BK134.out 1).trans rfl; have hfz27_0 := blk_frozen BK134.out 0; have hfz27_1 := blk_frozen BK134.out 1) | (go_at_call 27; (with_reducible refine (addr_Name.calls t131 t132 t145 _ ?side1 A8.out).mono ?_); (case side1 => exact gl_1_1 (by repeat (first | (with_reducible first | exact HB.out | apply below_alloc | apply pw_below_drewN | apply below_drew1 | refine below_set ?_ GE134.out | refine below_set ?_ GE138.out | refine below_set ?_ GE144.out) | exact HB.out)) hG); rintro e w28 ⟨rfl, hb⟩; have n0_ := Aside0.mk (blk_below (g := gb134) (o := .cells #[.int .i64 t131, .int .i64 t132] 25 (0, 0)) (by (with_reducible repeat (first | refine blk_drewN ?_ _ | refine blk_drew ?_ | refine blk_alloc ?_ _)); refine blk_far ?_ NB134_144.out _; (with_reducible repeat (first | refine blk_drewN ?_ _ | refine blk_drew ?_ | refine blk_alloc ?_ _)); refine blk_far ?_ NB134_144.out _; (with_reducible repeat (first | refine blk_drewN ?_ _ | refine blk_drew ?_ | refine blk_alloc ?_ _)); refine blk_far ?_ NB134_144.out _; (with_reducible repeat (first | refine blk_drewN ?_ _ | refine blk_drew ?_ | refine blk_alloc ?_ _)); refine blk_far ?_ NB134_144.out _; (with_reducible repeat (first | refine blk_drewN ?_ _ | refine blk_drew ?_ | refine blk_alloc ?_ _)); exact BK134.out) hb); have n1_ := Aside0.mk (blk_below (g := gb138) (o := .cells #[.int .i64 t135, .int .i64 t136] 25 (0, 0)) (by (with_reducible repeat (first | refine blk_drewN ?_ _ | refine blk_drew ?_ | refine blk_alloc ?_ _)); refine blk_far ?_ NB138_144.out _; (with_reducible repeat (first | refine blk_drewN ?_ _ | refine blk_drew ?_ | refine blk_alloc ?_ _)); refine blk_far ?_ NB138_144.out _; (with_reducible repeat (first | refine blk_drewN ?_ _ | refine blk_drew ?_ | refine blk_alloc ?_ _)); refine blk_far ?_ NB138_144.out _; (with_reducible repeat (first | refine blk_drewN ?_ _ | refine blk_drew ?_ | refine blk_alloc ?_ _)); refine blk_far ?_ NB138_144.out _; (with_reducible repeat (first | refine blk_drewN ?_ _ | refine blk_drew ?_ | refine blk_alloc ?_ _)); exact BK138.out) hb); have n2_ := Aside0.mk (blk_below (g := gb144) (o := .cells #[.int .i64 t139, .int .i64 t140, .int .i64 t141, .int .i64 t142] 27 (0, 0)) (by (with_reducible repeat (first | refine blk_drewN ?_ _ | refine blk_drew ?_ | refine blk_alloc ?_ _)); refine blk_put (cs := #[.int .i64 t139, .int .i64 t140, .int .i64 t141, .int .i64 0]) ?_ 3 _ rfl; (with_reducible repeat (first | refine blk_drewN ?_ _ | refine blk_drew ?_ | refine blk_alloc ?_ _)); refine blk_put (cs := #[.int .i64 t139, .int .i64 t140, .int .i64 0, .int .i64 0]) ?_ 2 _ rfl; (with_reducible repeat (first | refine blk_drewN ?_ _ | refine blk_drew ?_ | refine blk_alloc ?_ _)); refine blk_put (cs := #[.int .i64 t139, .int .i64 0, .int .i64 0, .int .i64 0]) ?_ 1 _ rfl; (with_reducible repeat (first | refine blk_drewN ?_ _ | refine blk_drew ?_ | refine blk_alloc ?_ _)); refine blk_put (cs := #[.int .i64 0, .int .i64 0, .int .i64 0, .int .i64 0]) ?_ 0 _ rfl; (with_reducible repeat (first | refine blk_drewN ?_ _ | refine blk_drew ?_ | refine blk_alloc ?_ _)); exact BK144.out) hb); have n3_ := Aside0.mk (below_step (by repeat (first | (with_reducible first | exact HB.out | apply below_alloc | apply pw_below_drewN | apply below_drew1 | refine below_set ?_ GE134.out | refine below_set ?_ GE138.out | refine below_set ?_ GE144.out) | exact HB.out)) hb); clear BK134; clear BK138; clear BK144; clear HB; have BK134 := n0_; have BK138 := n1_; have BK144 := n2_; have HB := n3_; clear n0_ n1_ n2_ n3_; (try clear hb); (try clear hb2); (try clear hk); (try clear hi); have hcz29_0 : w28.cell? ⟨gb144, 0, none⟩ = some (.int .i64 t139) := (blk_cell BK144.out 0).trans rfl; have hcz29_1 : w28.cell? ⟨gb144, 1, none⟩ = some (.int .i64 t140) := (blk_cell BK144.out 1).trans rfl; have hcz29_2 : w28.cell? ⟨gb144, 2, none⟩ = some (.int .i64 t141) := (blk_cell BK144.out 2).trans rfl; have hcz29_3 : w28.cell? ⟨gb144, 3, none⟩ = some (.int .i64 t142) := (blk_cell BK144.out 3).trans rfl; have hfz29_0 := blk_frozen BK144.out 0; have hfz29_1 := blk_frozen BK144.out 1; have hfz29_2 := blk_frozen BK144.out 2; have hfz29_3 := blk_frozen BK144.out 3) | (go_at_call 9; (with_reducible refine (addr_Count.calls t139 t140 t141 t142 t146 _ A10.out).mono ?_); rintro e w30 ⟨rfl, hb⟩; have n0_ := Aside0.mk (blk_below (g := gb134) (o := .cells #[.int .i64 t131, .int .i64 t132] 25 (0, 0)) (by (with_reducible repeat (first | refine blk_drewN ?_ _ | refine blk_drew ?_ | refine blk_alloc ?_ _)); exact BK134.out) hb); have n1_ := Aside0.mk (blk_below (g := gb138) (o := .cells #[.int .i64 t135, .int .i64 t136] 25 (0, 0)) (by (with_reducible repeat (first | refine blk_drewN ?_ _ | refine blk_drew ?_ | refine blk_alloc ?_ _)); exact BK138.out) hb); have n2_ := Aside0.mk (blk_below (g := gb144) (o := .cells #[.int .i64 t139, .int .i64 t140, .int .i64 t141, .int .i64 t142] 27 (0, 0)) (by (with_reducible repeat (first | refine blk_drewN ?_ _ | refine blk_drew ?_ | refine blk_alloc ?_ _)); exact BK144.out) hb); have n3_ := Aside0.mk (below_step (by repeat (first | (with_reducible first | exact HB.out | apply below_alloc | apply pw_below_drewN | apply below_drew1 | refine below_set ?_ GE134.out | refine below_set ?_ GE138.out | refine below_set ?_ GE144.out) | exact HB.out)) hb); clear BK134; clear BK138; clear BK144; clear HB; have BK134 := n0_; have BK138 := n1_; have BK144 := n2_; have HB := n3_; clear n0_ n1_ n2_ n3_; (try clear hb); (try clear hb2); (try clear hk); (try clear hi); have hcz31_0 : w30.cell? ⟨gb144, 0, none⟩ = some (.int .i64 t139) := (blk_cell BK144.out 0).trans rfl; have hcz31_1 : w30.cell? ⟨gb144, 1, none⟩ = some (.int .i64 t140) := (blk_cell BK144.out 1).trans rfl; have hcz31_2 : w30.cell? ⟨gb144, 2, none⟩ = some (.int .i64 t141) := (blk_cell BK144.out 2).trans rfl; have hcz31_3 : w30.cell? ⟨gb144, 3, none⟩ = some (.int .i64 t142) := (blk_cell BK144.out 3).trans rfl; have hfz31_0 := blk_frozen BK144.out 0; have hfz31_1 := blk_frozen BK144.out 1; have hfz31_2 := blk_frozen BK144.out 2; have hfz31_3 := blk_frozen BK144.out 3) | (go_at_call 7; (with_reducible refine (addr_Has.calls t139 t140 t141 t142 4 4 true _ A12.out).mono ?_); rintro e w32 ⟨rfl, hb⟩; have n0_ := Aside0.mk (blk_below (g := gb134) (o := .cells #[.int .i64 t131, .int .i64 t132] 25 (0, 0)) (by (with_reducible repeat (first | refine blk_drewN ?_ _ | refine blk_drew ?_ | refine blk_alloc ?_ _)); exact BK134.out) hb); have n1_ := Aside0.mk (blk_below (g := gb138) (o := .cells #[.int .i64 t135, .int .i64 t136] 25 (0, 0)) (by (with_reducible repeat (first | refine blk_drewN ?_ _ | refine blk_drew ?_ | refine blk_alloc ?_ _)); exact BK138.out) hb); have n2_ := Aside0.mk (blk_below (g := gb144) (o := .cells #[.int .i64 t139, .int .i64 t140, .int .i64 t141, .int .i64 t142] 27 (0, 0)) (by (with_reducible repeat (first | refine blk_drewN ?_ _ | refine blk_drew ?_ | refine blk_alloc ?_ _)); exact BK144.out) hb); have n3_ := Aside0.mk (below_step (by repeat (first | (with_reducible first | exact HB.out | apply below_alloc | apply pw_below_drewN | apply below_drew1 | refine below_set ?_ GE134.out | refine below_set ?_ GE138.out | refine below_set ?_ GE144.out) | exact HB.out)) hb); clear BK134; clear BK138; clear BK144; clear HB; have BK134 := n0_; have BK138 := n1_; have BK144 := n2_; have HB := n3_; clear n0_ n1_ n2_ n3_; (try clear hb); (try clear hb2); (try clear hk); (try clear hi); have hcz33_0 : w32.cell? ⟨gb134, 0, none⟩ = some (.int .i64 t131) := (blk_cell BK134.out 0).trans rfl; have hcz33_1 : w32.cell? ⟨gb134, 1, none⟩ = some (.int .i64 t132) := (blk_cell BK134.out 1).trans rfl; have hfz33_0 := blk_frozen BK134.out 0; have hfz33_1 := blk_frozen BK134.out 1) | (go_at_call 25; (with_reducible refine (addr_Good.calls t131 t132 t148 _ A14.out).mono ?_); rintro e w34 ⟨rfl, hb⟩; have n0_ := Aside0.mk (blk_below (g := gb134) (o := .cells #[.int .i64 t131, .int .i64 t132] 25 (0, 0)) (by (with_reducible repeat (first | refine blk_drewN ?_ _ | refine blk_drew ?_ | refine blk_alloc ?_ _)); exact BK134.out) hb); have n1_ := Aside0.mk (blk_below (g := gb138) (o := .cells #[.int .i64 t135, .int .i64 t136] 25 (0, 0)) (by (with_reducible repeat (first | refine blk_drewN ?_ _ | refine blk_drew ?_ | refine blk_alloc ?_ _)); exact BK138.out) hb); have n2_ := Aside0.mk (blk_below (g := gb144) (o := .cells #[.int .i64 t139, .int .i64 t140, .int .i64 t141, .int .i64 t142] 27 (0, 0)) (by (with_reducible repeat (first | refine blk_drewN ?_ _ | refine blk_drew ?_ | refine blk_alloc ?_ _)); exact BK144.out) hb); have n3_ := Aside0.mk (below_step (by repeat (first | (with_reducible first | exact HB.out | apply below_alloc | apply pw_below_drewN | apply below_drew1 | refine below_set ?_ GE134.out | refine below_set ?_ GE138.out | refine below_set ?_ GE144.out) | exact HB.out)) hb); clear BK134; clear BK138; clear BK144; clear HB; have BK134 := n0_; have BK138 := n1_; have BK144 := n2_; have HB := n3_; clear n0_ n1_ n2_ n3_; (try clear hb); (try clear hb2); (try clear hk); (try clear hi)))
                go_ret
                exact ⟨by first | rfl | (simp [errW_none, errW_some] <;> rfl) | (simp [*, errW_none, errW_some] <;> rfl), by repeat (first | (with_reducible first | exact HB.out | apply below_alloc | apply pw_below_drewN | apply below_drew1 | refine below_set ?_ GE134.out | refine below_set ?_ GE138.out | refine below_set ?_ GE144.out) | exact HB.out)⟩
              · replace c13 := Bool.eq_false_iff.mpr c13
                subst c13
                have H1 : (none) = some r := by rw [if_neg (show ¬ (false = true) by decide)] at H; exact H
                clear H
                have H := H1
                clear H1
                exact absurd H (by simp)
            · rw [if_neg c11] at H
              exact absurd H (by simp)
          · rw [if_neg c9] at H
            exact absurd H (by simp)
        · rw [if_neg c7] at H
          exact absurd H (by simp)
      · replace c6 := Bool.eq_false_iff.mpr c6
        subst c6
        have H1 : (none) = some r := by rw [if_neg (show ¬ (false = true) by decide)] at H; exact H
        clear H
        have H := H1
        clear H1
        exact absurd H (by simp)
  · replace c4 := Bool.eq_false_iff.mpr c4
    subst c4
    have H1 : (none) = some r := by rw [if_neg (show ¬ (false = true) by decide)] at H; exact H
    clear H
    have H := H1
    clear H1
    exact absurd H (by simp)

end Go.Proofs.YtmhjnkeflbklpaaDoor.P

/- The law's wakes are true. -/
namespace Go.Proofs.YtmhjnkeflbklpaaDoor.P
open Go.RowKit Go.Proofs.YtmhjnkeflbklpaaDoorW.PrintWords Go.Proofs.YtmhjnkeflbklpaaDoorW.PrintLast Go.Proofs.YtmhjnkeflbklpaaDoorW.PrintMore
open M (fit I64 u64w dig itoaF)
set_option linter.unusedVariables false
set_option linter.unusedSimpArgs false

theorem wakes02 : pannierlaw02_wakes.f = some true := by decide +kernel
end Go.Proofs.YtmhjnkeflbklpaaDoor.P

namespace Go.Proofs.YtmhjnkeflbklpaaDoor.P
open Go.RowKit Go.Proofs.YtmhjnkeflbklpaaDoorW.PrintWords Go.Proofs.YtmhjnkeflbklpaaDoorW.PrintLast Go.Proofs.YtmhjnkeflbklpaaDoorW.PrintMore
attribute [local go_sem] max2_int min2_int max_two min_two max_three min_three max_four min_four   -- for this text's walks alone
set_option linter.unusedVariables false
set_option linter.unusedSimpArgs false

/-! ### addr_Meet: function 8 -/
def addr_Meet.f (a0_0 : Int) (a0_1 : Int) (a0_2 : Int) (a0_3 : Int) (a1_0 : Int) (a1_1 : Int) (a1_2 : Int) (a1_3 : Int) : Option (Bool) := (addr_Fine.f a0_0 a0_1 a0_2 a0_3).bind fun t117 => (if t117 = true then ((addr_Fine.f a1_0 a1_1 a1_2 a1_3).bind fun t118 => (if t118 = true then (if a0_0 ≤ a1_2 then (if a1_0 ≤ a0_2 then (if a0_1 ≤ a1_3 then (some (decide (a1_1 ≤ a0_3))) else (some false)) else (some false)) else (some false)) else (some false))) else (some false))
set_option maxHeartbeats 8000000 in
set_option maxRecDepth 100000 in
theorem addr_Meet.calls (a0_0 : Int) (a0_1 : Int) (a0_2 : Int) (a0_3 : Int) (a1_0 : Int) (a1_1 : Int) (a1_2 : Int) (a1_3 : Int) (r : Bool) (w : World) (h : addr_Meet.f a0_0 a0_1 a0_2 a0_3 a1_0 a1_1 a1_2 a1_3 = some r) :
    Calls Tryd.prog 8 #[.agg #[.int .i64 a0_0, .int .i64 a0_1, .int .i64 a0_2, .int .i64 a0_3], .agg #[.int .i64 a1_0, .int .i64 a1_1, .int .i64 a1_2, .int .i64 a1_3]] w fun e w' => e = .returned (.bool r) ∧ Below w.heap.size w w' := by
  have hu27 := Tryd.underlying27
  have HB := Aside0.mk (Below.refl w.heap.size w)
  have H : ((addr_Fine.f a0_0 a0_1 a0_2 a0_3).bind fun t117 => (if t117 = true then ((addr_Fine.f a1_0 a1_1 a1_2 a1_3).bind fun t118 => (if t118 = true then (if a0_0 ≤ a1_2 then (if a1_0 ≤ a0_2 then (if a0_1 ≤ a1_3 then (some (decide (a1_1 ≤ a0_3))) else (some false)) else (some false)) else (some false)) else (some false))) else (some false))) = some r := h
  clear h
  replace H := Option.bind_eq_some_iff.mp H
  obtain ⟨t117, A30, H⟩ := H
  replace H : (if t117 = true then ((addr_Fine.f a1_0 a1_1 a1_2 a1_3).bind fun t118 => (if t118 = true then (if a0_0 ≤ a1_2 then (if a1_0 ≤ a0_2 then (if a0_1 ≤ a1_3 then (some (decide (a1_1 ≤ a0_3))) else (some false)) else (some false)) else (some false)) else (some false))) else (some false)) = some r := H
  have A3 := Aside0.mk A30
  clear A30
  by_cases c4 : t117 = true
  · subst c4
    have H1 : ((addr_Fine.f a1_0 a1_1 a1_2 a1_3).bind fun t118 => (if t118 = true then (if a0_0 ≤ a1_2 then (if a1_0 ≤ a0_2 then (if a0_1 ≤ a1_3 then (some (decide (a1_1 ≤ a0_3))) else (some false)) else (some false)) else (some false)) else (some false))) = some r := by rw [if_pos rfl] at H; exact H
    clear H
    have H := H1
    clear H1
    replace H := Option.bind_eq_some_iff.mp H
    obtain ⟨t118, A50, H⟩ := H
    replace H : (if t118 = true then (if a0_0 ≤ a1_2 then (if a1_0 ≤ a0_2 then (if a0_1 ≤ a1_3 then (some (decide (a1_1 ≤ a0_3))) else (some false)) else (some false)) else (some false)) else (some false)) = some r := H
    have A5 := Aside0.mk A50
    clear A50
    by_cases c6 : t118 = true
    · subst c6
      have H1 : (if a0_0 ≤ a1_2 then (if a1_0 ≤ a0_2 then (if a0_1 ≤ a1_3 then (some (decide (a1_1 ≤ a0_3))) else (some false)) else (some false)) else (some false)) = some r := by rw [if_pos rfl] at H; exact H
      clear H
      have H := H1
      clear H1
      by_cases c7 : a0_0 ≤ a1_2
      · rw [if_pos c7] at H
        have c7b0 : decide (a0_0 ≤ a1_2) = true := decide_eq_true c7
        clear c7
        by_cases c8 : a1_0 ≤ a0_2
        · rw [if_pos c8] at H
          have c8b0 : decide (a1_0 ≤ a0_2) = true := decide_eq_true c8
          clear c8
          by_cases c9 : a0_1 ≤ a1_3
          · rw [if_pos c9] at H
            have c9b0 : decide (a0_1 ≤ a1_3) = true := decide_eq_true c9
            clear c9
            obtain rfl := Option.some.inj H
            go_enter Tryd.func8, Tryd.ntmps8
            go_wp2_with (first | ((with_reducible refine gate_dst (N := 2) rfl ?_); refine box_event ?hg (N := 2) ?hd (cs := #[.int .i64 a0_0, .int .i64 a0_1, .int .i64 a0_2, .int .i64 a0_3]) (t := 27) ?hr ?_; (case hd => rfl); (case hg => rfl); (case hr => first | (go_simp; done) | (go_simp; rfl)); intro gb115 hg w10 hbox hb; have n0_ := Aside0.mk (below_step (by repeat (first | (with_reducible first | exact HB.out | apply below_alloc | apply pw_below_drewN | apply below_drew1) | exact HB.out)) hb); have n1_ := Aside0.mk (hbox); have n2_ := Aside0.mk ((by rw [hg]; exact (below_size (by repeat (first | (with_reducible first | exact HB.out | apply below_alloc | apply pw_below_drewN | apply below_drew1) | exact HB.out))) : w.heap.size ≤ gb115)); have n3_ := Aside0.mk ((by rw [hg]; exact (below_size (by repeat (first | (with_reducible first | exact HB.out | apply below_alloc | apply pw_below_drewN | apply below_drew1) | exact HB.out))) : w.heap.size ≤ gb115)); clear HB; have HB := n0_; have BK115 := n1_; have GW115 := n2_; have GE115 := n3_; clear n0_ n1_ n2_ n3_; clear hb hbox hg) | ((with_reducible refine gate_dst (N := 3) rfl ?_); refine box_event ?hg (N := 3) ?hd (cs := #[.int .i64 a1_0, .int .i64 a1_1, .int .i64 a1_2, .int .i64 a1_3]) (t := 27) ?hr ?_; (case hd => rfl); (case hg => rfl); (case hr => first | (go_simp; done) | (go_simp; rfl)); intro gb116 hg w11 hbox hb; have n0_ := Aside0.mk (blk_below (g := gb115) (o := .cells #[.int .i64 a0_0, .int .i64 a0_1, .int .i64 a0_2, .int .i64 a0_3] 27 (0, 0)) (by (with_reducible repeat (first | refine blk_drewN ?_ _ | refine blk_drew ?_ | refine blk_alloc ?_ _)); exact BK115.out) hb); have n1_ := Aside0.mk (below_step (by repeat (first | (with_reducible first | exact HB.out | apply below_alloc | apply pw_below_drewN | apply below_drew1 | refine below_set ?_ GE115.out) | exact HB.out)) hb); have n2_ := Aside0.mk (hbox); have n3_ := Aside0.mk ((by rw [hg]; exact (below_size (by repeat (first | (with_reducible first | exact HB.out | apply below_alloc | apply pw_below_drewN | apply below_drew1 | refine below_set ?_ GE115.out) | exact HB.out))) : w.heap.size ≤ gb116)); have n4_ := Aside0.mk ((by rw [hg]; exact (below_size (by repeat (first | (with_reducible first | exact HB.out | apply below_alloc | apply pw_below_drewN | apply below_drew1 | refine below_set ?_ GE115.out) | exact HB.out))) : w.heap.size ≤ gb116)); have n5_ := Aside0.mk ((by rw [hg]; exact Nat.ne_of_lt (blk_lt (g := gb115) (o := .cells #[.int .i64 a0_0, .int .i64 a0_1, .int .i64 a0_2, .int .i64 a0_3] 27 (0, 0)) (by (with_reducible repeat (first | refine blk_drewN ?_ _ | refine blk_drew ?_ | refine blk_alloc ?_ _)); exact BK115.out)) : gb115 ≠ gb116)); have n6_ := Aside0.mk ((by rw [hg]; exact Nat.ne_of_gt (blk_lt (g := gb115) (o := .cells #[.int .i64 a0_0, .int .i64 a0_1, .int .i64 a0_2, .int .i64 a0_3] 27 (0, 0)) (by (with_reducible repeat (first | refine blk_drewN ?_ _ | refine blk_drew ?_ | refine blk_alloc ?_ _)); exact BK115.out)) : gb116 ≠ gb115)); clear BK115; clear HB; have BK115 := n0_; have HB := n1_; have BK116 := n2_; have GW116 := n3_; have GE116 := n4_; have NB115_116 := n5_; have NB116_115 := n6_; clear n0_ n1_ n2_ n3_ n4_ n5_ n6_; clear hb hbox hg; have hnb12 := NB115_116.out; have hnc12 := NB116_115.out; have hcz13_0 : w11.cell? ⟨gb115, 0, none⟩ = some (.int .i64 a0_0) := (blk_cell BK115.out 0).trans rfl; have hcz13_1 : w11.cell? ⟨gb115, 1, none⟩ = some (.int .i64 a0_1) := (blk_cell BK115.out 1).trans rfl; have hcz13_2 : w11.cell? ⟨gb115, 2, none⟩ = some (.int .i64 a0_2) := (blk_cell BK115.out 2).trans rfl; have hcz13_3 : w11.cell? ⟨gb115, 3, none⟩ = some (.int .i64 a0_3) := (blk_cell BK115.out 3).trans rfl; have hfz13_0 := blk_frozen BK115.out 0; have hfz13_1 := blk_frozen BK115.out 1; have hfz13_2 := blk_frozen BK115.out 2; have hfz13_3 := blk_frozen BK115.out 3) | ((with_reducible refine gate_callee (f := 13) rfl ?_); refine goesL_ (some 6) rfl rfl Tryd.func13 (by kernel_rfl) rfl #[.agg #[.int .i64 a0_0, .int .i64 a0_1, .int .i64 a0_2, .int .i64 a0_3]] rfl (by (try simp only [List.map_toArray, List.map_cons, List.map_nil]); first | done | rfl | (simp only [List.length_drop, List.length_take]; rfl)) ?_; (with_reducible refine (addr_Fine.calls a0_0 a0_1 a0_2 a0_3 true _ A3.out).mono ?_); rintro e w14 ⟨rfl, hb⟩; refine ⟨_, rfl, ?_⟩; have n0_ := Aside0.mk (blk_below (g := gb115) (o := .cells #[.int .i64 a0_0, .int .i64 a0_1, .int .i64 a0_2, .int .i64 a0_3] 27 (0, 0)) (by (with_reducible repeat (first | refine blk_drewN ?_ _ | refine blk_drew ?_ | refine blk_alloc ?_ _)); exact BK115.out) hb); have n1_ := Aside0.mk (blk_below (g := gb116) (o := .cells #[.int .i64 a1_0, .int .i64 a1_1, .int .i64 a1_2, .int .i64 a1_3] 27 (0, 0)) (by (with_reducible repeat (first | refine blk_drewN ?_ _ | refine blk_drew ?_ | refine blk_alloc ?_ _)); exact BK116.out) hb); have n2_ := Aside0.mk (below_step (by repeat (first | (with_reducible first | exact HB.out | apply below_alloc | apply pw_below_drewN | apply below_drew1 | refine below_set ?_ GE115.out | refine below_set ?_ GE116.out) | exact HB.out)) hb); clear BK115; clear BK116; clear HB; have BK115 := n0_; have BK116 := n1_; have HB := n2_; clear n0_ n1_ n2_; (try clear hb); (try clear hb2); (try clear hk); (try clear hi); have hcz15_0 : w14.cell? ⟨gb116, 0, none⟩ = some (.int .i64 a1_0) := (blk_cell BK116.out 0).trans rfl; have hcz15_1 : w14.cell? ⟨gb116, 1, none⟩ = some (.int .i64 a1_1) := (blk_cell BK116.out 1).trans rfl; have hcz15_2 : w14.cell? ⟨gb116, 2, none⟩ = some (.int .i64 a1_2) := (blk_cell BK116.out 2).trans rfl; have hcz15_3 : w14.cell? ⟨gb116, 3, none⟩ = some (.int .i64 a1_3) := (blk_cell BK116.out 3).trans rfl; have hfz15_0 := blk_frozen BK116.out 0; have hfz15_1 := blk_frozen BK116.out 1; have hfz15_2 := blk_frozen BK116.out 2; have hfz15_3 := blk_frozen BK116.out 3) | (go_at_call 13; (with_reducible refine (addr_Fine.calls a1_0 a1_1 a1_2 a1_3 true _ A5.out).mono ?_); rintro e w16 ⟨rfl, hb⟩; have n0_ := Aside0.mk (blk_below (g := gb115) (o := .cells #[.int .i64 a0_0, .int .i64 a0_1, .int .i64 a0_2, .int .i64 a0_3] 27 (0, 0)) (by (with_reducible repeat (first | refine blk_drewN ?_ _ | refine blk_drew ?_ | refine blk_alloc ?_ _)); exact BK115.out) hb); have n1_ := Aside0.mk (blk_below (g := gb116) (o := .cells #[.int .i64 a1_0, .int .i64 a1_1, .int .i64 a1_2, .int .i64 a1_3] 27 (0, 0)) (by (with_reducible repeat (first | refine blk_drewN ?_ _ | refine blk_drew ?_ | refine blk_alloc ?_ _)); exact BK116.out) hb); have n2_ := Aside0.mk (below_step (by repeat (first | (with_reducible first | exact HB.out | apply below_alloc | apply pw_below_drewN | apply below_drew1 | refine below_set ?_ GE115.out | refine below_set ?_ GE116.out) | exact HB.out)) hb); clear BK115; clear BK116; clear HB; have BK115 := n0_; have BK116 := n1_; have HB := n2_; clear n0_ n1_ n2_; (try clear hb); (try clear hb2); (try clear hk); (try clear hi); have hcz17_0 : w16.cell? ⟨gb115, 0, none⟩ = some (.int .i64 a0_0) := (blk_cell BK115.out 0).trans rfl; have hcz17_1 : w16.cell? ⟨gb115, 1, none⟩ = some (.int .i64 a0_1) := (blk_cell BK115.out 1).trans rfl; have hcz17_2 : w16.cell? ⟨gb115, 2, none⟩ = some (.int .i64 a0_2) := (blk_cell BK115.out 2).trans rfl; have hcz17_3 : w16.cell? ⟨gb115, 3, none⟩ = some (.int .i64 a0_3) := (blk_cell BK115.out 3).trans rfl; have hfz17_0 := blk_frozen BK115.out 0; have hfz17_1 := blk_frozen BK115.out 1; have hfz17_2 := blk_frozen BK115.out 2; have hfz17_3 := blk_frozen BK115.out 3; have hcz18_0 : w16.cell? ⟨gb116, 0, none⟩ = some (.int .i64 a1_0) := (blk_cell BK116.out 0).trans rfl; have hcz18_1 : w16.cell? ⟨gb116, 1, none⟩ = some (.int .i64 a1_1) := (blk_cell BK116.out 1).trans rfl; have hcz18_2 : w16.cell? ⟨gb116, 2, none⟩ = some (.int .i64 a1_2) := (blk_cell BK116.out 2).trans rfl; have hcz18_3 : w16.cell? ⟨gb116, 3, none⟩ = some (.int .i64 a1_3) := (blk_cell BK116.out 3).trans rfl; have hfz18_0 := blk_frozen BK116.out 0; have hfz18_1 := blk_frozen BK116.out 1; have hfz18_2 := blk_frozen BK116.out 2; have hfz18_3 := blk_frozen BK116.out 3))
            go_ret
            exact ⟨by first | rfl | (simp [errW_none, errW_some] <;> rfl) | (simp [*, errW_none, errW_some] <;> rfl), by repeat (first | (with_reducible first | exact HB.out | apply below_alloc | apply pw_below_drewN | apply below_drew1 | refine below_set ?_ GE115.out | refine below_set ?_ GE116.out) | exact HB.out)⟩
          · rw [if_neg c9] at H
            have c9b0 : decide (a0_1 ≤ a1_3) = false := decide_eq_false c9
            clear c9
            obtain rfl := Option.some.inj H
            go_enter Tryd.func8, Tryd.ntmps8
            go_wp2_with (first | ((with_reducible refine gate_dst (N := 2) rfl ?_); refine box_event ?hg (N := 2) ?hd (cs := #[.int .i64 a0_0, .int .i64 a0_1, .int .i64 a0_2, .int .i64 a0_3]) (t := 27) ?hr ?_; (case hd => rfl); (case hg => rfl); (case hr => first | (go_simp; done) | (go_simp; rfl)); intro gb115 hg w19 hbox hb; have n0_ := Aside0.mk (below_step (by repeat (first | (with_reducible first | exact HB.out | apply below_alloc | apply pw_below_drewN | apply below_drew1) | exact HB.out)) hb); have n1_ := Aside0.mk (hbox); have n2_ := Aside0.mk ((by rw [hg]; exact (below_size (by repeat (first | (with_reducible first | exact HB.out | apply below_alloc | apply pw_below_drewN | apply below_drew1) | exact HB.out))) : w.heap.size ≤ gb115)); have n3_ := Aside0.mk ((by rw [hg]; exact (below_size (by repeat (first | (with_reducible first | exact HB.out | apply below_alloc | apply pw_below_drewN | apply below_drew1) | exact HB.out))) : w.heap.size ≤ gb115)); clear HB; have HB := n0_; have BK115 := n1_; have GW115 := n2_; have GE115 := n3_; clear n0_ n1_ n2_ n3_; clear hb hbox hg) | ((with_reducible refine gate_dst (N := 3) rfl ?_); refine box_event ?hg (N := 3) ?hd (cs := #[.int .i64 a1_0, .int .i64 a1_1, .int .i64 a1_2, .int .i64 a1_3]) (t := 27) ?hr ?_; (case hd => rfl); (case hg => rfl); (case hr => first | (go_simp; done) | (go_simp; rfl)); intro gb116 hg w20 hbox hb; have n0_ := Aside0.mk (blk_below (g := gb115) (o := .cells #[.int .i64 a0_0, .int .i64 a0_1, .int .i64 a0_2, .int .i64 a0_3] 27 (0, 0)) (by (with_reducible repeat (first | refine blk_drewN ?_ _ | refine blk_drew ?_ | refine blk_alloc ?_ _)); exact BK115.out) hb); have n1_ := Aside0.mk (below_step (by repeat (first | (with_reducible first | exact HB.out | apply below_alloc | apply pw_below_drewN | apply below_drew1 | refine below_set ?_ GE115.out) | exact HB.out)) hb); have n2_ := Aside0.mk (hbox); have n3_ := Aside0.mk ((by rw [hg]; exact (below_size (by repeat (first | (with_reducible first | exact HB.out | apply below_alloc | apply pw_below_drewN | apply below_drew1 | refine below_set ?_ GE115.out) | exact HB.out))) : w.heap.size ≤ gb116)); have n4_ := Aside0.mk ((by rw [hg]; exact (below_size (by repeat (first | (with_reducible first | exact HB.out | apply below_alloc | apply pw_below_drewN | apply below_drew1 | refine below_set ?_ GE115.out) | exact HB.out))) : w.heap.size ≤ gb116)); have n5_ := Aside0.mk ((by rw [hg]; exact Nat.ne_of_lt (blk_lt (g := gb115) (o := .cells #[.int .i64 a0_0, .int .i64 a0_1, .int .i64 a0_2, .int .i64 a0_3] 27 (0, 0)) (by (with_reducible repeat (first | refine blk_drewN ?_ _ | refine blk_drew ?_ | refine blk_alloc ?_ _)); exact BK115.out)) : gb115 ≠ gb116)); have n6_ := Aside0.mk ((by rw [hg]; exact Nat.ne_of_gt (blk_lt (g := gb115) (o := .cells #[.int .i64 a0_0, .int .i64 a0_1, .int .i64 a0_2, .int .i64 a0_3] 27 (0, 0)) (by (with_reducible repeat (first | refine blk_drewN ?_ _ | refine blk_drew ?_ | refine blk_alloc ?_ _)); exact BK115.out)) : gb116 ≠ gb115)); clear BK115; clear HB; have BK115 := n0_; have HB := n1_; have BK116 := n2_; have GW116 := n3_; have GE116 := n4_; have NB115_116 := n5_; have NB116_115 := n6_; clear n0_ n1_ n2_ n3_ n4_ n5_ n6_; clear hb hbox hg; have hnb21 := NB115_116.out; have hnc21 := NB116_115.out; have hcz22_0 : w20.cell? ⟨gb115, 0, none⟩ = some (.int .i64 a0_0) := (blk_cell BK115.out 0).trans rfl; have hcz22_1 : w20.cell? ⟨gb115, 1, none⟩ = some (.int .i64 a0_1) := (blk_cell BK115.out 1).trans rfl; have hcz22_2 : w20.cell? ⟨gb115, 2, none⟩ = some (.int .i64 a0_2) := (blk_cell BK115.out 2).trans rfl; have hcz22_3 : w20.cell? ⟨gb115, 3, none⟩ = some (.int .i64 a0_3) := (blk_cell BK115.out 3).trans rfl; have hfz22_0 := blk_frozen BK115.out 0; have hfz22_1 := blk_frozen BK115.out 1; have hfz22_2 := blk_frozen BK115.out 2; have hfz22_3 := blk_frozen BK115.out 3) | ((with_reducible refine gate_callee (f := 13) rfl ?_); refine goesL_ (some 6) rfl rfl Tryd.func13 (by kernel_rfl) rfl #[.agg #[.int .i64 a0_0, .int .i64 a0_1, .int .i64 a0_2, .int .i64 a0_3]] rfl (by (try simp only [List.map_toArray, List.map_cons, List.map_nil]); first | done | rfl | (simp only [List.length_drop, List.length_take]; rfl)) ?_; (with_reducible refine (addr_Fine.calls a0_0 a0_1 a0_2 a0_3 true _ A3.out).mono ?_); rintro e w23 ⟨rfl, hb⟩; refine ⟨_, rfl, ?_⟩; have n0_ := Aside0.mk (blk_below (g := gb115) (o := .cells #[.int .i64 a0_0, .int .i64 a0_1, .int .i64 a0_2, .int .i64 a0_3] 27 (0, 0)) (by (with_reducible repeat (first | refine blk_drewN ?_ _ | refine blk_drew ?_ | refine blk_alloc ?_ _)); exact BK115.out) hb); have n1_ := Aside0.mk (blk_below (g := gb116) (o := .cells #[.int .i64 a1_0, .int .i64 a1_1, .int .i64 a1_2, .int .i64 a1_3] 27 (0, 0)) (by (with_reducible repeat (first | refine blk_drewN ?_ _ | refine blk_drew ?_ | refine blk_alloc ?_ _)); exact BK116.out) hb); have n2_ := Aside0.mk (below_step (by repeat (first | (with_reducible first | exact HB.out | apply below_alloc | apply pw_below_drewN | apply below_drew1 | refine below_set ?_ GE115.out | refine below_set ?_ GE116.out) | exact HB.out)) hb); clear BK115; clear BK116; clear HB; have BK115 := n0_; have BK116 := n1_; have HB := n2_; clear n0_ n1_ n2_; (try clear hb); (try clear hb2); (try clear hk); (try clear hi); have hcz24_0 : w23.cell? ⟨gb116, 0, none⟩ = some (.int .i64 a1_0) := (blk_cell BK116.out 0).trans rfl; have hcz24_1 : w23.cell? ⟨gb116, 1, none⟩ = some (.int .i64 a1_1) := (blk_cell BK116.out 1).trans rfl; have hcz24_2 : w23.cell? ⟨gb116, 2, none⟩ = some (.int .i64 a1_2) := (blk_cell BK116.out 2).trans rfl; have hcz24_3 : w23.cell? ⟨gb116, 3, none⟩ = some (.int .i64 a1_3) := (blk_cell BK116.out 3).trans rfl; have hfz24_0 := blk_frozen BK116.out 0; have hfz24_1 := blk_frozen BK116.out 1; have hfz24_2 := blk_frozen BK116.out 2; have hfz24_3 := blk_frozen BK116.out 3) | (go_at_call 13; (with_reducible refine (addr_Fine.calls a1_0 a1_1 a1_2 a1_3 true _ A5.out).mono ?_); rintro e w25 ⟨rfl, hb⟩; have n0_ := Aside0.mk (blk_below (g := gb115) (o := .cells #[.int .i64 a0_0, .int .i64 a0_1, .int .i64 a0_2, .int .i64 a0_3] 27 (0, 0)) (by (with_reducible repeat (first | refine blk_drewN ?_ _ | refine blk_drew ?_ | refine blk_alloc ?_ _)); exact BK115.out) hb); have n1_ := Aside0.mk (blk_below (g := gb116) (o := .cells #[.int .i64 a1_0, .int .i64 a1_1, .int .i64 a1_2, .int .i64 a1_3] 27 (0, 0)) (by (with_reducible repeat (first | refine blk_drewN ?_ _ | refine blk_drew ?_ | refine blk_alloc ?_ _)); exact BK116.out) hb); have n2_ := Aside0.mk (below_step (by repeat (first | (with_reducible first | exact HB.out | apply below_alloc | apply pw_below_drewN | apply below_drew1 | refine below_set ?_ GE115.out | refine below_set ?_ GE116.out) | exact HB.out)) hb); clear BK115; clear BK116; clear HB; have BK115 := n0_; have BK116 := n1_; have HB := n2_; clear n0_ n1_ n2_; (try clear hb); (try clear hb2); (try clear hk); (try clear hi); have hcz26_0 : w25.cell? ⟨gb115, 0, none⟩ = some (.int .i64 a0_0) := (blk_cell BK115.out 0).trans rfl; have hcz26_1 : w25.cell? ⟨gb115, 1, none⟩ = some (.int .i64 a0_1) := (blk_cell BK115.out 1).trans rfl; have hcz26_2 : w25.cell? ⟨gb115, 2, none⟩ = some (.int .i64 a0_2) := (blk_cell BK115.out 2).trans rfl; have hcz26_3 : w25.cell? ⟨gb115, 3, none⟩ = some (.int .i64 a0_3) := (blk_cell BK115.out 3).trans rfl; have hfz26_0 := blk_frozen BK115.out 0; have hfz26_1 := blk_frozen BK115.out 1; have hfz26_2 := blk_frozen BK115.out 2; have hfz26_3 := blk_frozen BK115.out 3; have hcz27_0 : w25.cell? ⟨gb116, 0, none⟩ = some (.int .i64 a1_0) := (blk_cell BK116.out 0).trans rfl; have hcz27_1 : w25.cell? ⟨gb116, 1, none⟩ = some (.int .i64 a1_1) := (blk_cell BK116.out 1).trans rfl; have hcz27_2 : w25.cell? ⟨gb116, 2, none⟩ = some (.int .i64 a1_2) := (blk_cell BK116.out 2).trans rfl; have hcz27_3 : w25.cell? ⟨gb116, 3, none⟩ = some (.int .i64 a1_3) := (blk_cell BK116.out 3).trans rfl; have hfz27_0 := blk_frozen BK116.out 0; have hfz27_1 := blk_frozen BK116.out 1; have hfz27_2 := blk_frozen BK116.out 2; have hfz27_3 := blk_frozen BK116.out 3))
            go_ret
            exact ⟨by first | rfl | (simp [errW_none, errW_some] <;> rfl) | (simp [*, errW_none, errW_some] <;> rfl), by repeat (first | (with_reducible first | exact HB.out | apply below_alloc | apply pw_below_drewN | apply below_drew1 | refine below_set ?_ GE115.out | refine below_set ?_ GE116.out) | exact HB.out)⟩
        · rw [if_neg c8] at H
          have c8b0 : decide (a1_0 ≤ a0_2) = false := decide_eq_false c8
          clear c8
          obtain rfl := Option.some.inj H
          go_enter Tryd.func8, Tryd.ntmps8
          go_wp2_with (first | ((with_reducible refine gate_dst (N := 2) rfl ?_); refine box_event ?hg (N := 2) ?hd (cs := #[.int .i64 a0_0, .int .i64 a0_1, .int .i64 a0_2, .int .i64 a0_3]) (t := 27) ?hr ?_; (case hd => rfl); (case hg => rfl); (case hr => first | (go_simp; done) | (go_simp; rfl)); intro gb115 hg w28 hbox hb; have n0_ := Aside0.mk (below_step (by repeat (first | (with_reducible first | exact HB.out | apply below_alloc | apply pw_below_drewN | apply below_drew1) | exact HB.out)) hb); have n1_ := Aside0.mk (hbox); have n2_ := Aside0.mk ((by rw [hg]; exact (below_size (by repeat (first | (with_reducible first | exact HB.out | apply below_alloc | apply pw_below_drewN | apply below_drew1) | exact HB.out))) : w.heap.size ≤ gb115)); have n3_ := Aside0.mk ((by rw [hg]; exact (below_size (by repeat (first | (with_reducible first | exact HB.out | apply below_alloc | apply pw_below_drewN | apply below_drew1) | exact HB.out))) : w.heap.size ≤ gb115)); clear HB; have HB := n0_; have BK115 := n1_; have GW115 := n2_; have GE115 := n3_; clear n0_ n1_ n2_ n3_; clear hb hbox hg) | ((with_reducible refine gate_dst (N := 3) rfl ?_); refine box_event ?hg (N := 3) ?hd (cs := #[.int .i64 a1_0, .int .i64 a1_1, .int .i64 a1_2, .int .i64 a1_3]) (t := 27) ?hr ?_; (case hd => rfl); (case hg => rfl); (case hr => first | (go_simp; done) | (go_simp; rfl)); intro gb116 hg w29 hbox hb; have n0_ := Aside0.mk (blk_below (g := gb115) (o := .cells #[.int .i64 a0_0, .int .i64 a0_1, .int .i64 a0_2, .int .i64 a0_3] 27 (0, 0)) (by (with_reducible repeat (first | refine blk_drewN ?_ _ | refine blk_drew ?_ | refine blk_alloc ?_ _)); exact BK115.out) hb); have n1_ := Aside0.mk (below_step (by repeat (first | (with_reducible first | exact HB.out | apply below_alloc | apply pw_below_drewN | apply below_drew1 | refine below_set ?_ GE115.out) | exact HB.out)) hb); have n2_ := Aside0.mk (hbox); have n3_ := Aside0.mk ((by rw [hg]; exact (below_size (by repeat (first | (with_reducible first | exact HB.out | apply below_alloc | apply pw_below_drewN | apply below_drew1 | refine below_set ?_ GE115.out) | exact HB.out))) : w.heap.size ≤ gb116)); have n4_ := Aside0.mk ((by rw [hg]; exact (below_size (by repeat (first | (with_reducible first | exact HB.out | apply below_alloc | apply pw_below_drewN | apply below_drew1 | refine below_set ?_ GE115.out) | exact HB.out))) : w.heap.size ≤ gb116)); have n5_ := Aside0.mk ((by rw [hg]; exact Nat.ne_of_lt (blk_lt (g := gb115) (o := .cells #[.int .i64 a0_0, .int .i64 a0_1, .int .i64 a0_2, .int .i64 a0_3] 27 (0, 0)) (by (with_reducible repeat (first | refine blk_drewN ?_ _ | refine blk_drew ?_ | refine blk_alloc ?_ _)); exact BK115.out)) : gb115 ≠ gb116)); have n6_ := Aside0.mk ((by rw [hg]; exact Nat.ne_of_gt (blk_lt (g := gb115) (o := .cells #[.int .i64 a0_0, .int .i64 a0_1, .int .i64 a0_2, .int .i64 a0_3] 27 (0, 0)) (by (with_reducible repeat (first | refine blk_drewN ?_ _ | refine blk_drew ?_ | refine blk_alloc ?_ _)); exact BK115.out)) : gb116 ≠ gb115)); clear BK115; clear HB; have BK115 := n0_; have HB := n1_; have BK116 := n2_; have GW116 := n3_; have GE116 := n4_; have NB115_116 := n5_; have NB116_115 := n6_; clear n0_ n1_ n2_ n3_ n4_ n5_ n6_; clear hb hbox hg; have hnb30 := NB115_116.out; have hnc30 := NB116_115.out; have hcz31_0 : w29.cell? ⟨gb115, 0, none⟩ = some (.int .i64 a0_0) := (blk_cell BK115.out 0).trans rfl; have hcz31_1 : w29.cell? ⟨gb115, 1, none⟩ = some (.int .i64 a0_1) := (blk_cell BK115.out 1).trans rfl; have hcz31_2 : w29.cell? ⟨gb115, 2, none⟩ = some (.int .i64 a0_2) := (blk_cell BK115.out 2).trans rfl; have hcz31_3 : w29.cell? ⟨gb115, 3, none⟩ = some (.int .i64 a0_3) := (blk_cell BK115.out 3).trans rfl; have hfz31_0 := blk_frozen BK115.out 0; have hfz31_1 := blk_frozen BK115.out 1; have hfz31_2 := blk_frozen BK115.out 2; have hfz31_3 := blk_frozen BK115.out 3) | ((with_reducible refine gate_callee (f := 13) rfl ?_); refine goesL_ (some 6) rfl rfl Tryd.func13 (by kernel_rfl) rfl #[.agg #[.int .i64 a0_0, .int .i64 a0_1, .int .i64 a0_2, .int .i64 a0_3]] rfl (by (try simp only [List.map_toArray, List.map_cons, List.map_nil]); first | done | rfl | (simp only [List.length_drop, List.length_take]; rfl)) ?_; (with_reducible refine (addr_Fine.calls a0_0 a0_1 a0_2 a0_3 true _ A3.out).mono ?_); rintro e w32 ⟨rfl, hb⟩; refine ⟨_, rfl, ?_⟩; have n0_ := Aside0.mk (blk_below (g := gb115) (o := .cells #[.int .i64 a0_0, .int .i64 a0_1, .int .i64 a0_2, .int .i64 a0_3] 27 (0, 0)) (by (with_reducible repeat (first | refine blk_drewN ?_ _ | refine blk_drew ?_ | refine blk_alloc ?_ _)); exact BK115.out) hb); have n1_ := Aside0.mk (blk_below (g := gb116) (o := .cells #[.int .i64 a1_0, .int .i64 a1_1, .int .i64 a1_2, .int .i64 a1_3] 27 (0, 0)) (by (with_reducible repeat (first | refine blk_drewN ?_ _ | refine blk_drew ?_ | refine blk_alloc ?_ _)); exact BK116.out) hb); have n2_ := Aside0.mk (below_step (by repeat (first | (with_reducible first | exact HB.out | apply below_alloc | apply pw_below_drewN | apply below_drew1 | refine below_set ?_ GE115.out | refine below_set ?_ GE116.out) | exact HB.out)) hb); clear BK115; clear BK116; clear HB; have BK115 := n0_; have BK116 := n1_; have HB := n2_; clear n0_ n1_ n2_; (try clear hb); (try clear hb2); (try clear hk); (try clear hi); have hcz33_0 : w32.cell? ⟨gb116, 0, none⟩ = some (.int .i64 a1_0) := (blk_cell BK116.out 0).trans rfl; have hcz33_1 : w32.cell? ⟨gb116, 1, none⟩ = some (.int .i64 a1_1) := (blk_cell BK116.out 1).trans rfl; have hcz33_2 : w32.cell? ⟨gb116, 2, none⟩ = some (.int .i64 a1_2) := (blk_cell BK116.out 2).trans rfl; have hcz33_3 : w32.cell? ⟨gb116, 3, none⟩ = some (.int .i64 a1_3) := (blk_cell BK116.out 3).trans rfl; have hfz33_0 := blk_frozen BK116.out 0; have hfz33_1 := blk_frozen BK116.out 1; have hfz33_2 := blk_frozen BK116.out 2; have hfz33_3 := blk_frozen BK116.out 3) | (go_at_call 13; (with_reducible refine (addr_Fine.calls a1_0 a1_1 a1_2 a1_3 true _ A5.out).mono ?_); rintro e w34 ⟨rfl, hb⟩; have n0_ := Aside0.mk (blk_below (g := gb115) (o := .cells #[.int .i64 a0_0, .int .i64 a0_1, .int .i64 a0_2, .int .i64 a0_3] 27 (0, 0)) (by (with_reducible repeat (first | refine blk_drewN ?_ _ | refine blk_drew ?_ | refine blk_alloc ?_ _)); exact BK115.out) hb); have n1_ := Aside0.mk (blk_below (g := gb116) (o := .cells #[.int .i64 a1_0, .int .i64 a1_1, .int .i64 a1_2, .int .i64 a1_3] 27 (0, 0)) (by (with_reducible repeat (first | refine blk_drewN ?_ _ | refine blk_drew ?_ | refine blk_alloc ?_ _)); exact BK116.out) hb); have n2_ := Aside0.mk (below_step (by repeat (first | (with_reducible first | exact HB.out | apply below_alloc | apply pw_below_drewN | apply below_drew1 | refine below_set ?_ GE115.out | refine below_set ?_ GE116.out) | exact HB.out)) hb); clear BK115; clear BK116; clear HB; have BK115 := n0_; have BK116 := n1_; have HB := n2_; clear n0_ n1_ n2_; (try clear hb); (try clear hb2); (try clear hk); (try clear hi); have hcz35_0 : w34.cell? ⟨gb115, 0, none⟩ = some (.int .i64 a0_0) := (blk_cell BK115.out 0).trans rfl; have hcz35_1 : w34.cell? ⟨gb115, 1, none⟩ = some (.int .i64 a0_1) := (blk_cell BK115.out 1).trans rfl; have hcz35_2 : w34.cell? ⟨gb115, 2, none⟩ = some (.int .i64 a0_2) := (blk_cell BK115.out 2).trans rfl; have hcz35_3 : w34.cell? ⟨gb115, 3, none⟩ = some (.int .i64 a0_3) := (blk_cell BK115.out 3).trans rfl; have hfz35_0 := blk_frozen BK115.out 0; have hfz35_1 := blk_frozen BK115.out 1; have hfz35_2 := blk_frozen BK115.out 2; have hfz35_3 := blk_frozen BK115.out 3; have hcz36_0 : w34.cell? ⟨gb116, 0, none⟩ = some (.int .i64 a1_0) := (blk_cell BK116.out 0).trans rfl; have hcz36_1 : w34.cell? ⟨gb116, 1, none⟩ = some (.int .i64 a1_1) := (blk_cell BK116.out 1).trans rfl; have hcz36_2 : w34.cell? ⟨gb116, 2, none⟩ = some (.int .i64 a1_2) := (blk_cell BK116.out 2).trans rfl; have hcz36_3 : w34.cell? ⟨gb116, 3, none⟩ = some (.int .i64 a1_3) := (blk_cell BK116.out 3).trans rfl; have hfz36_0 := blk_frozen BK116.out 0; have hfz36_1 := blk_frozen BK116.out 1; have hfz36_2 := blk_frozen BK116.out 2; have hfz36_3 := blk_frozen BK116.out 3))
          go_ret
          exact ⟨by first | rfl | (simp [errW_none, errW_some] <;> rfl) | (simp [*, errW_none, errW_some] <;> rfl), by repeat (first | (with_reducible first | exact HB.out | apply below_alloc | apply pw_below_drewN | apply below_drew1 | refine below_set ?_ GE115.out | refine below_set ?_ GE116.out) | exact HB.out)⟩
      · rw [if_neg c7] at H
        have c7b0 : decide (a0_0 ≤ a1_2) = false := decide_eq_false c7
        clear c7
        obtain rfl := Option.some.inj H
        go_enter Tryd.func8, Tryd.ntmps8
        go_wp2_with (first | ((with_reducible refine gate_dst (N := 2) rfl ?_); refine box_event ?hg (N := 2) ?hd (cs := #[.int .i64 a0_0, .int .i64 a0_1, .int .i64 a0_2, .int .i64 a0_3]) (t := 27) ?hr ?_; (case hd => rfl); (case hg => rfl); (case hr => first | (go_simp; done) | (go_simp; rfl)); intro gb115 hg w37 hbox hb; have n0_ := Aside0.mk (below_step (by repeat (first | (with_reducible first | exact HB.out | apply below_alloc | apply pw_below_drewN | apply below_drew1) | exact HB.out)) hb); have n1_ := Aside0.mk (hbox); have n2_ := Aside0.mk ((by rw [hg]; exact (below_size (by repeat (first | (with_reducible first | exact HB.out | apply below_alloc | apply pw_below_drewN | apply below_drew1) | exact HB.out))) : w.heap.size ≤ gb115)); have n3_ := Aside0.mk ((by rw [hg]; exact (below_size (by repeat (first | (with_reducible first | exact HB.out | apply below_alloc | apply pw_below_drewN | apply below_drew1) | exact HB.out))) : w.heap.size ≤ gb115)); clear HB; have HB := n0_; have BK115 := n1_; have GW115 := n2_; have GE115 := n3_; clear n0_ n1_ n2_ n3_; clear hb hbox hg) | ((with_reducible refine gate_dst (N := 3) rfl ?_); refine box_event ?hg (N := 3) ?hd (cs := #[.int .i64 a1_0, .int .i64 a1_1, .int .i64 a1_2, .int .i64 a1_3]) (t := 27) ?hr ?_; (case hd => rfl); (case hg => rfl); (case hr => first | (go_simp; done) | (go_simp; rfl)); intro gb116 hg w38 hbox hb; have n0_ := Aside0.mk (blk_below (g := gb115) (o := .cells #[.int .i64 a0_0, .int .i64 a0_1, .int .i64 a0_2, .int .i64 a0_3] 27 (0, 0)) (by (with_reducible repeat (first | refine blk_drewN ?_ _ | refine blk_drew ?_ | refine blk_alloc ?_ _)); exact BK115.out) hb); have n1_ := Aside0.mk (below_step (by repeat (first | (with_reducible first | exact HB.out | apply below_alloc | apply pw_below_drewN | apply below_drew1 | refine below_set ?_ GE115.out) | exact HB.out)) hb); have n2_ := Aside0.mk (hbox); have n3_ := Aside0.mk ((by rw [hg]; exact (below_size (by repeat (first | (with_reducible first | exact HB.out | apply below_alloc | apply pw_below_drewN | apply below_drew1 | refine below_set ?_ GE115.out) | exact HB.out))) : w.heap.size ≤ gb116)); have n4_ := Aside0.mk ((by rw [hg]; exact (below_size (by repeat (first | (with_reducible first | exact HB.out | apply below_alloc | apply pw_below_drewN | apply below_drew1 | refine below_set ?_ GE115.out) | exact HB.out))) : w.heap.size ≤ gb116)); have n5_ := Aside0.mk ((by rw [hg]; exact Nat.ne_of_lt (blk_lt (g := gb115) (o := .cells #[.int .i64 a0_0, .int .i64 a0_1, .int .i64 a0_2, .int .i64 a0_3] 27 (0, 0)) (by (with_reducible repeat (first | refine blk_drewN ?_ _ | refine blk_drew ?_ | refine blk_alloc ?_ _)); exact BK115.out)) : gb115 ≠ gb116)); have n6_ := Aside0.mk ((by rw [hg]; exact Nat.ne_of_gt (blk_lt (g := gb115) (o := .cells #[.int .i64 a0_0, .int .i64 a0_1, .int .i64 a0_2, .int .i64 a0_3] 27 (0, 0)) (by (with_reducible repeat (first | refine blk_drewN ?_ _ | refine blk_drew ?_ | refine blk_alloc ?_ _)); exact BK115.out)) : gb116 ≠ gb115)); clear BK115; clear HB; have BK115 := n0_; have HB := n1_; have BK116 := n2_; have GW116 := n3_; have GE116 := n4_; have NB115_116 := n5_; have NB116_115 := n6_; clear n0_ n1_ n2_ n3_ n4_ n5_ n6_; clear hb hbox hg; have hnb39 := NB115_116.out; have hnc39 := NB116_115.out; have hcz40_0 : w38.cell? ⟨gb115, 0, none⟩ = some (.int .i64 a0_0) := (blk_cell BK115.out 0).trans rfl; have hcz40_1 : w38.cell? ⟨gb115, 1, none⟩ = some (.int .i64 a0_1) := (blk_cell BK115.out 1).trans rfl; have hcz40_2 : w38.cell? ⟨gb115, 2, none⟩ = some (.int .i64 a0_2) := (blk_cell BK115.out 2).trans rfl; have hcz40_3 : w38.cell? ⟨gb115, 3, none⟩ = some (.int .i64 a0_3) := (blk_cell BK115.out 3).trans rfl; have hfz40_0 := blk_frozen BK115.out 0; have hfz40_1 := blk_frozen BK115.out 1; have hfz40_2 := blk_frozen BK115.out 2; have hfz40_3 := blk_frozen BK115.out 3) | ((with_reducible refine gate_callee (f := 13) rfl ?_); refine goesL_ (some 6) rfl rfl Tryd.func13 (by kernel_rfl) rfl #[.agg #[.int .i64 a0_0, .int .i64 a0_1, .int .i64 a0_2, .int .i64 a0_3]] rfl (by (try simp only [List.map_toArray, List.map_cons, List.map_nil]); first | done | rfl | (simp only [List.length_drop, List.length_take]; rfl)) ?_; (with_reducible refine (addr_Fine.calls a0_0 a0_1 a0_2 a0_3 true _ A3.out).mono ?_); rintro e w41 ⟨rfl, hb⟩; refine ⟨_, rfl, ?_⟩; have n0_ := Aside0.mk (blk_below (g := gb115) (o := .cells #[.int .i64 a0_0, .int .i64 a0_1, .int .i64 a0_2, .int .i64 a0_3] 27 (0, 0)) (by (with_reducible repeat (first | refine blk_drewN ?_ _ | refine blk_drew ?_ | refine blk_alloc ?_ _)); exact BK115.out) hb); have n1_ := Aside0.mk (blk_below (g := gb116) (o := .cells #[.int .i64 a1_0, .int .i64 a1_1, .int .i64 a1_2, .int .i64 a1_3] 27 (0, 0)) (by (with_reducible repeat (first | refine blk_drewN ?_ _ | refine blk_drew ?_ | refine blk_alloc ?_ _)); exact BK116.out) hb); have n2_ := Aside0.mk (below_step (by repeat (first | (with_reducible first | exact HB.out | apply below_alloc | apply pw_below_drewN | apply below_drew1 | refine below_set ?_ GE115.out | refine below_set ?_ GE116.out) | exact HB.out)) hb); clear BK115; clear BK116; clear HB; have BK115 := n0_; have BK116 := n1_; have HB := n2_; clear n0_ n1_ n2_; (try clear hb); (try clear hb2); (try clear hk); (try clear hi); have hcz42_0 : w41.cell? ⟨gb116, 0, none⟩ = some (.int .i64 a1_0) := (blk_cell BK116.out 0).trans rfl; have hcz42_1 : w41.cell? ⟨gb116, 1, none⟩ = some (.int .i64 a1_1) := (blk_cell BK116.out 1).trans rfl; have hcz42_2 : w41.cell? ⟨gb116, 2, none⟩ = some (.int .i64 a1_2) := (blk_cell BK116.out 2).trans rfl; have hcz42_3 : w41.cell? ⟨gb116, 3, none⟩ = some (.int .i64 a1_3) := (blk_cell BK116.out 3).trans rfl; have hfz42_0 := blk_frozen BK116.out 0; have hfz42_1 := blk_frozen BK116.out 1; have hfz42_2 := blk_frozen BK116.out 2; have hfz42_3 := blk_frozen BK116.out 3) | (go_at_call 13; (with_reducible refine (addr_Fine.calls a1_0 a1_1 a1_2 a1_3 true _ A5.out).mono ?_); rintro e w43 ⟨rfl, hb⟩; have n0_ := Aside0.mk (blk_below (g := gb115) (o := .cells #[.int .i64 a0_0, .int .i64 a0_1, .int .i64 a0_2, .int .i64 a0_3] 27 (0, 0)) (by (with_reducible repeat (first | refine blk_drewN ?_ _ | refine blk_drew ?_ | refine blk_alloc ?_ _)); exact BK115.out) hb); have n1_ := Aside0.mk (blk_below (g := gb116) (o := .cells #[.int .i64 a1_0, .int .i64 a1_1, .int .i64 a1_2, .int .i64 a1_3] 27 (0, 0)) (by (with_reducible repeat (first | refine blk_drewN ?_ _ | refine blk_drew ?_ | refine blk_alloc ?_ _)); exact BK116.out) hb); have n2_ := Aside0.mk (below_step (by repeat (first | (with_reducible first | exact HB.out | apply below_alloc | apply pw_below_drewN | apply below_drew1 | refine below_set ?_ GE115.out | refine below_set ?_ GE116.out) | exact HB.out)) hb); clear BK115; clear BK116; clear HB; have BK115 := n0_; have BK116 := n1_; have HB := n2_; clear n0_ n1_ n2_; (try clear hb); (try clear hb2); (try clear hk); (try clear hi); have hcz44_0 : w43.cell? ⟨gb115, 0, none⟩ = some (.int .i64 a0_0) := (blk_cell BK115.out 0).trans rfl; have hcz44_1 : w43.cell? ⟨gb115, 1, none⟩ = some (.int .i64 a0_1) := (blk_cell BK115.out 1).trans rfl; have hcz44_2 : w43.cell? ⟨gb115, 2, none⟩ = some (.int .i64 a0_2) := (blk_cell BK115.out 2).trans rfl; have hcz44_3 : w43.cell? ⟨gb115, 3, none⟩ = some (.int .i64 a0_3) := (blk_cell BK115.out 3).trans rfl; have hfz44_0 := blk_frozen BK115.out 0; have hfz44_1 := blk_frozen BK115.out 1; have hfz44_2 := blk_frozen BK115.out 2; have hfz44_3 := blk_frozen BK115.out 3; have hcz45_0 : w43.cell? ⟨gb116, 0, none⟩ = some (.int .i64 a1_0) := (blk_cell BK116.out 0).trans rfl; have hcz45_1 : w43.cell? ⟨gb116, 1, none⟩ = some (.int .i64 a1_1) := (blk_cell BK116.out 1).trans rfl; have hcz45_2 : w43.cell? ⟨gb116, 2, none⟩ = some (.int .i64 a1_2) := (blk_cell BK116.out 2).trans rfl; have hcz45_3 : w43.cell? ⟨gb116, 3, none⟩ = some (.int .i64 a1_3) := (blk_cell BK116.out 3).trans rfl; have hfz45_0 := blk_frozen BK116.out 0; have hfz45_1 := blk_frozen BK116.out 1; have hfz45_2 := blk_frozen BK116.out 2; have hfz45_3 := blk_frozen BK116.out 3))
        go_ret
        exact ⟨by first | rfl | (simp [errW_none, errW_some] <;> rfl) | (simp [*, errW_none, errW_some] <;> rfl), by repeat (first | (with_reducible first | exact HB.out | apply below_alloc | apply pw_below_drewN | apply below_drew1 | refine below_set ?_ GE115.out | refine below_set ?_ GE116.out) | exact HB.out)⟩
    · replace c6 := Bool.eq_false_iff.mpr c6
      subst c6
      have H1 : (some false) = some r := by rw [if_neg (show ¬ (false = true) by decide)] at H; exact H
      clear H
      have H := H1
      clear H1
      obtain rfl := Option.some.inj H
      go_enter Tryd.func8, Tryd.ntmps8
      go_wp2_with (first | ((with_reducible refine gate_dst (N := 2) rfl ?_); refine box_event ?hg (N := 2) ?hd (cs := #[.int .i64 a0_0, .int .i64 a0_1, .int .i64 a0_2, .int .i64 a0_3]) (t := 27) ?hr ?_; (case hd => rfl); (case hg => rfl); (case hr => first | (go_simp; done) | (go_simp; rfl)); intro gb115 hg w46 hbox hb; have n0_ := Aside0.mk (below_step (by repeat (first | (with_reducible first | exact HB.out | apply below_alloc | apply pw_below_drewN | apply below_drew1) | exact HB.out)) hb); have n1_ := Aside0.mk (hbox); have n2_ := Aside0.mk ((by rw [hg]; exact (below_size (by repeat (first | (with_reducible first | exact HB.out | apply below_alloc | apply pw_below_drewN | apply below_drew1) | exact HB.out))) : w.heap.size ≤ gb115)); have n3_ := Aside0.mk ((by rw [hg]; exact (below_size (by repeat (first | (with_reducible first | exact HB.out | apply below_alloc | apply pw_below_drewN | apply below_drew1) | exact HB.out))) : w.heap.size ≤ gb115)); clear HB; have HB := n0_; have BK115 := n1_; have GW115 := n2_; have GE115 := n3_; clear n0_ n1_ n2_ n3_; clear hb hbox hg) | ((with_reducible refine gate_dst (N := 3) rfl ?_); refine box_event ?hg (N := 3) ?hd (cs := #[.int .i64 a1_0, .int .i64 a1_1, .int .i64 a1_2, .int .i64 a1_3]) (t := 27) ?hr ?_; (case hd => rfl); (case hg => rfl); (case hr => first | (go_simp; done) | (go_simp; rfl)); intro gb116 hg w47 hbox hb; have n0_ := Aside0.mk (blk_below (g := gb115) (o := .cells #[.int .i64 a0_0, .int .i64 a0_1, .int .i64 a0_2, .int .i64 a0_3] 27 (0, 0)) (by (with_reducible repeat (first | refine blk_drewN ?_ _ | refine blk_drew ?_ | refine blk_alloc ?_ _)); exact BK115.out) hb); have n1_ := Aside0.mk (below_step (by repeat (first | (with_reducible first | exact HB.out | apply below_alloc | apply pw_below_drewN | apply below_drew1 | refine below_set ?_ GE115.out) | exact HB.out)) hb); have n2_ := Aside0.mk (hbox); have n3_ := Aside0.mk ((by rw [hg]; exact (below_size (by repeat (first | (with_reducible first | exact HB.out | apply below_alloc | apply pw_below_drewN | apply below_drew1 | refine below_set ?_ GE115.out) | exact HB.out))) : w.heap.size ≤ gb116)); have n4_ := Aside0.mk ((by rw [hg]; exact (below_size (by repeat (first | (with_reducible first | exact HB.out | apply below_alloc | apply pw_below_drewN | apply below_drew1 | refine below_set ?_ GE115.out) | exact HB.out))) : w.heap.size ≤ gb116)); have n5_ := Aside0.mk ((by rw [hg]; exact Nat.ne_of_lt (blk_lt (g := gb115) (o := .cells #[.int .i64 a0_0, .int .i64 a0_1, .int .i64 a0_2, .int .i64 a0_3] 27 (0, 0)) (by (with_reducible repeat (first | refine blk_drewN ?_ _ | refine blk_drew ?_ | refine blk_alloc ?_ _)); exact BK115.out)) : gb115 ≠ gb116)); have n6_ := Aside0.mk ((by rw [hg]; exact Nat.ne_of_gt (blk_lt (g := gb115) (o := .cells #[.int .i64 a0_0, .int .i64 a0_1, .int .i64 a0_2, .int .i64 a0_3] 27 (0, 0)) (by (with_reducible repeat (first | refine blk_drewN ?_ _ | refine blk_drew ?_ | refine blk_alloc ?_ _)); exact BK115.out)) : gb116 ≠ gb115)); clear BK115; clear HB; have BK115 := n0_; have HB := n1_; have BK116 := n2_; have GW116 := n3_; have GE116 := n4_; have NB115_116 := n5_; have NB116_115 := n6_; clear n0_ n1_ n2_ n3_ n4_ n5_ n6_; clear hb hbox hg; have hnb48 := NB115_116.out; have hnc48 := NB116_115.out; have hcz49_0 : w47.cell? ⟨gb115, 0, none⟩ = some (.int .i64 a0_0) := (blk_cell BK115.out 0).trans rfl; have hcz49_1 : w47.cell? ⟨gb115, 1, none⟩ = some (.int .i64 a0_1) := (blk_cell BK115.out 1).trans rfl; have hcz49_2 : w47.cell? ⟨gb115, 2, none⟩ = some (.int .i64 a0_2) := (blk_cell BK115.out 2).trans rfl; have hcz49_3 : w47.cell? ⟨gb115, 3, none⟩ = some (.int .i64 a0_3) := (blk_cell BK115.out 3).trans rfl; have hfz49_0 := blk_frozen BK115.out 0; have hfz49_1 := blk_frozen BK115.out 1; have hfz49_2 := blk_frozen BK115.out 2; have hfz49_3 := blk_frozen BK115.out 3) | ((with_reducible refine gate_callee (f := 13) rfl ?_); refine goesL_ (some 6) rfl rfl Tryd.func13 (by kernel_rfl) rfl #[.agg #[.int .i64 a0_0, .int .i64 a0_1, .int .i64 a0_2, .int .i64 a0_3]] rfl (by (try simp only [List.map_toArray, List.map_cons, List.map_nil]); first | done | rfl | (simp only [List.length_drop, List.length_take]; rfl)) ?_; (with_reducible refine (addr_Fine.calls a0_0 a0_1 a0_2 a0_3 true _ A3.out).mono ?_); rintro e w50 ⟨rfl, hb⟩; refine ⟨_, rfl, ?_⟩; have n0_ := Aside0.mk (blk_below (g := gb115) (o := .cells #[.int .i64 a0_0, .int .i64 a0_1, .int .i64 a0_2, .int .i64 a0_3] 27 (0, 0)) (by (with_reducible repeat (first | refine blk_drewN ?_ _ | refine blk_drew ?_ | refine blk_alloc ?_ _)); exact BK115.out) hb); have n1_ := Aside0.mk (blk_below (g := gb116) (o := .cells #[.int .i64 a1_0, .int .i64 a1_1, .int .i64 a1_2, .int .i64 a1_3] 27 (0, 0)) (by (with_reducible repeat (first | refine blk_drewN ?_ _ | refine blk_drew ?_ | refine blk_alloc ?_ _)); exact BK116.out) hb); have n2_ := Aside0.mk (below_step (by repeat (first | (with_reducible first | exact HB.out | apply below_alloc | apply pw_below_drewN | apply below_drew1 | refine below_set ?_ GE115.out | refine below_set ?_ GE116.out) | exact HB.out)) hb); clear BK115; clear BK116; clear HB; have BK115 := n0_; have BK116 := n1_; have HB := n2_; clear n0_ n1_ n2_; (try clear hb); (try clear hb2); (try clear hk); (try clear hi); have hcz51_0 : w50.cell? ⟨gb116, 0, none⟩ = some (.int .i64 a1_0) := (blk_cell BK116.out 0).trans rfl; have hcz51_1 : w50.cell? ⟨gb116, 1, none⟩ = some (.int .i64 a1_1) := (blk_cell BK116.out 1).trans rfl; have hcz51_2 : w50.cell? ⟨gb116, 2, none⟩ = some (.int .i64 a1_2) := (blk_cell BK116.out 2).trans rfl; have hcz51_3 : w50.cell? ⟨gb116, 3, none⟩ = some (.int .i64 a1_3) := (blk_cell BK116.out 3).trans rfl; have hfz51_0 := blk_frozen BK116.out 0; have hfz51_1 := blk_frozen BK116.out 1; have hfz51_2 := blk_frozen BK116.out 2; have hfz51_3 := blk_frozen BK116.out 3) | (go_at_call 13; (with_reducible refine (addr_Fine.calls a1_0 a1_1 a1_2 a1_3 false _ A5.out).mono ?_); rintro e w52 ⟨rfl, hb⟩; have n0_ := Aside0.mk (blk_below (g := gb115) (o := .cells #[.int .i64 a0_0, .int .i64 a0_1, .int .i64 a0_2, .int .i64 a0_3] 27 (0, 0)) (by (with_reducible repeat (first | refine blk_drewN ?_ _ | refine blk_drew ?_ | refine blk_alloc ?_ _)); exact BK115.out) hb); have n1_ := Aside0.mk (blk_below (g := gb116) (o := .cells #[.int .i64 a1_0, .int .i64 a1_1, .int .i64 a1_2, .int .i64 a1_3] 27 (0, 0)) (by (with_reducible repeat (first | refine blk_drewN ?_ _ | refine blk_drew ?_ | refine blk_alloc ?_ _)); exact BK116.out) hb); have n2_ := Aside0.mk (below_step (by repeat (first | (with_reducible first | exact HB.out | apply below_alloc | apply pw_below_drewN | apply below_drew1 | refine below_set ?_ GE115.out | refine below_set ?_ GE116.out) | exact HB.out)) hb); clear BK115; clear BK116; clear HB; have BK115 := n0_; have BK116 := n1_; have HB := n2_; clear n0_ n1_ n2_; (try clear hb); (try clear hb2); (try clear hk); (try clear hi)))
      go_ret
      exact ⟨by first | rfl | (simp [errW_none, errW_some] <;> rfl) | (simp [*, errW_none, errW_some] <;> rfl), by repeat (first | (with_reducible first | exact HB.out | apply below_alloc | apply pw_below_drewN | apply below_drew1 | refine below_set ?_ GE115.out | refine below_set ?_ GE116.out) | exact HB.out)⟩
  · replace c4 := Bool.eq_false_iff.mpr c4
    subst c4
    have H1 : (some false) = some r := by rw [if_neg (show ¬ (false = true) by decide)] at H; exact H
    clear H
    have H := H1
    clear H1
    obtain rfl := Option.some.inj H
    go_enter Tryd.func8, Tryd.ntmps8
    go_wp2_with (first | ((with_reducible refine gate_dst (N := 2) rfl ?_); refine box_event ?hg (N := 2) ?hd (cs := #[.int .i64 a0_0, .int .i64 a0_1, .int .i64 a0_2, .int .i64 a0_3]) (t := 27) ?hr ?_; (case hd => rfl); (case hg => rfl); (case hr => first | (go_simp; done) | (go_simp; rfl)); intro gb115 hg w53 hbox hb; have n0_ := Aside0.mk (below_step (by repeat (first | (with_reducible first | exact HB.out | apply below_alloc | apply pw_below_drewN | apply below_drew1) | exact HB.out)) hb); have n1_ := Aside0.mk (hbox); have n2_ := Aside0.mk ((by rw [hg]; exact (below_size (by repeat (first | (with_reducible first | exact HB.out | apply below_alloc | apply pw_below_drewN | apply below_drew1) | exact HB.out))) : w.heap.size ≤ gb115)); have n3_ := Aside0.mk ((by rw [hg]; exact (below_size (by repeat (first | (with_reducible first | exact HB.out | apply below_alloc | apply pw_below_drewN | apply below_drew1) | exact HB.out))) : w.heap.size ≤ gb115)); clear HB; have HB := n0_; have BK115 := n1_; have GW115 := n2_; have GE115 := n3_; clear n0_ n1_ n2_ n3_; clear hb hbox hg) | ((with_reducible refine gate_dst (N := 3) rfl ?_); refine box_event ?hg (N := 3) ?hd (cs := #[.int .i64 a1_0, .int .i64 a1_1, .int .i64 a1_2, .int .i64 a1_3]) (t := 27) ?hr ?_; (case hd => rfl); (case hg => rfl); (case hr => first | (go_simp; done) | (go_simp; rfl)); intro gb116 hg w54 hbox hb; have n0_ := Aside0.mk (blk_below (g := gb115) (o := .cells #[.int .i64 a0_0, .int .i64 a0_1, .int .i64 a0_2, .int .i64 a0_3] 27 (0, 0)) (by (with_reducible repeat (first | refine blk_drewN ?_ _ | refine blk_drew ?_ | refine blk_alloc ?_ _)); exact BK115.out) hb); have n1_ := Aside0.mk (below_step (by repeat (first | (with_reducible first | exact HB.out | apply below_alloc | apply pw_below_drewN | apply below_drew1 | refine below_set ?_ GE115.out) | exact HB.out)) hb); have n2_ := Aside0.mk (hbox); have n3_ := Aside0.mk ((by rw [hg]; exact (below_size (by repeat (first | (with_reducible first | exact HB.out | apply below_alloc | apply pw_below_drewN | apply below_drew1 | refine below_set ?_ GE115.out) | exact HB.out))) : w.heap.size ≤ gb116)); have n4_ := Aside0.mk ((by rw [hg]; exact (below_size (by repeat (first | (with_reducible first | exact HB.out | apply below_alloc | apply pw_below_drewN | apply below_drew1 | refine below_set ?_ GE115.out) | exact HB.out))) : w.heap.size ≤ gb116)); have n5_ := Aside0.mk ((by rw [hg]; exact Nat.ne_of_lt (blk_lt (g := gb115) (o := .cells #[.int .i64 a0_0, .int .i64 a0_1, .int .i64 a0_2, .int .i64 a0_3] 27 (0, 0)) (by (with_reducible repeat (first | refine blk_drewN ?_ _ | refine blk_drew ?_ | refine blk_alloc ?_ _)); exact BK115.out)) : gb115 ≠ gb116)); have n6_ := Aside0.mk ((by rw [hg]; exact Nat.ne_of_gt (blk_lt (g := gb115) (o := .cells #[.int .i64 a0_0, .int .i64 a0_1, .int .i64 a0_2, .int .i64 a0_3] 27 (0, 0)) (by (with_reducible repeat (first | refine blk_drewN ?_ _ | refine blk_drew ?_ | refine blk_alloc ?_ _)); exact BK115.out)) : gb116 ≠ gb115)); clear BK115; clear HB; have BK115 := n0_; have HB := n1_; have BK116 := n2_; have GW116 := n3_; have GE116 := n4_; have NB115_116 := n5_; have NB116_115 := n6_; clear n0_ n1_ n2_ n3_ n4_ n5_ n6_; clear hb hbox hg; have hnb55 := NB115_116.out; have hnc55 := NB116_115.out; have hcz56_0 : w54.cell? ⟨gb115, 0, none⟩ = some (.int .i64 a0_0) := (blk_cell BK115.out 0).trans rfl; have hcz56_1 : w54.cell? ⟨gb115, 1, none⟩ = some (.int .i64 a0_1) := (blk_cell BK115.out 1).trans rfl; have hcz56_2 : w54.cell? ⟨gb115, 2, none⟩ = some (.int .i64 a0_2) := (blk_cell BK115.out 2).trans rfl; have hcz56_3 : w54.cell? ⟨gb115, 3, none⟩ = some (.int .i64 a0_3) := (blk_cell BK115.out 3).trans rfl; have hfz56_0 := blk_frozen BK115.out 0; have hfz56_1 := blk_frozen BK115.out 1; have hfz56_2 := blk_frozen BK115.out 2; have hfz56_3 := blk_frozen BK115.out 3) | ((with_reducible refine gate_callee (f := 13) rfl ?_); refine goesL_ (some 6) rfl rfl Tryd.func13 (by kernel_rfl) rfl #[.agg #[.int .i64 a0_0, .int .i64 a0_1, .int .i64 a0_2, .int .i64 a0_3]] rfl (by (try simp only [List.map_toArray, List.map_cons, List.map_nil]); first | done | rfl | (simp only [List.length_drop, List.length_take]; rfl)) ?_; (with_reducible refine (addr_Fine.calls a0_0 a0_1 a0_2 a0_3 false _ A3.out).mono ?_); rintro e w57 ⟨rfl, hb⟩; refine ⟨_, rfl, ?_⟩; have n0_ := Aside0.mk (blk_below (g := gb115) (o := .cells #[.int .i64 a0_0, .int .i64 a0_1, .int .i64 a0_2, .int .i64 a0_3] 27 (0, 0)) (by (with_reducible repeat (first | refine blk_drewN ?_ _ | refine blk_drew ?_ | refine blk_alloc ?_ _)); exact BK115.out) hb); have n1_ := Aside0.mk (blk_below (g := gb116) (o := .cells #[.int .i64 a1_0, .int .i64 a1_1, .int .i64 a1_2, .int .i64 a1_3] 27 (0, 0)) (by (with_reducible repeat (first | refine blk_drewN ?_ _ | refine blk_drew ?_ | refine blk_alloc ?_ _)); exact BK116.out) hb); have n2_ := Aside0.mk (below_step (by repeat (first | (with_reducible first | exact HB.out | apply below_alloc | apply pw_below_drewN | apply below_drew1 | refine below_set ?_ GE115.out | refine below_set ?_ GE116.out) | exact HB.out)) hb); clear BK115; clear BK116; clear HB; have BK115 := n0_; have BK116 := n1_; have HB := n2_; clear n0_ n1_ n2_; (try clear hb); (try clear hb2); (try clear hk); (try clear hi)))
    go_ret
    exact ⟨by first | rfl | (simp [errW_none, errW_some] <;> rfl) | (simp [*, errW_none, errW_some] <;> rfl), by repeat (first | (with_reducible first | exact HB.out | apply below_alloc | apply pw_below_drewN | apply below_drew1 | refine below_set ?_ GE115.out | refine below_set ?_ GE116.out) | exact HB.out)⟩

end Go.Proofs.YtmhjnkeflbklpaaDoor.P

/- Rectangles: what the program makes of them. -/
namespace Go.Proofs.YtmhjnkeflbklpaaDoor.P
open Go.RowKit Go.Proofs.YtmhjnkeflbklpaaDoorW.PrintWords Go.Proofs.YtmhjnkeflbklpaaDoorW.PrintLast Go.Proofs.YtmhjnkeflbklpaaDoorW.PrintMore
open M (fit I64 u64w dig itoaF)
set_option linter.unusedVariables false
set_option linter.unusedSimpArgs false

def fineB (x y z u : Int) : Bool := cellB x y && cellB z u && decide (x ≤ z) && decide (y ≤ u)
theorem fine_eq (x y z u : Int) : addr_Fine.f x y z u = some (fineB x y z u) := by
  unfold addr_Fine.f fineB
  rw [good_eq, Option.bind_some, good_eq, Option.bind_some]
  by_cases h1 : cellB x y = true <;> by_cases h2 : cellB z u = true <;> by_cases h3 : x ≤ z <;> simp [h1, h2, h3]
def hasB (x y z u r c : Int) : Bool := fineB x y z u && decide (x ≤ r) && decide (r ≤ z) && decide (y ≤ c) && decide (c ≤ u)
theorem has_eq (x y z u r c : Int) : addr_Has.f x y z u r c = some (hasB x y z u r c) := by
  unfold addr_Has.f hasB
  rw [fine_eq, Option.bind_some]
  by_cases h1 : fineB x y z u = true <;> by_cases h2 : x ≤ r <;> by_cases h3 : r ≤ z <;> by_cases h4 : y ≤ c <;> simp [h1, h2, h3, h4]
def meetB (x y z u x' y' z' u' : Int) : Bool := fineB x y z u && fineB x' y' z' u' && decide (x ≤ z') && decide (x' ≤ z) && decide (y ≤ u') && decide (y' ≤ u)
theorem meet_eq (x y z u x' y' z' u' : Int) : addr_Meet.f x y z u x' y' z' u' = some (meetB x y z u x' y' z' u') := by
  unfold addr_Meet.f meetB
  rw [fine_eq, Option.bind_some, fine_eq, Option.bind_some]
  by_cases h1 : fineB x y z u = true <;> by_cases h2 : fineB x' y' z' u' = true <;> by_cases h3 : x ≤ z' <;> by_cases h4 : x' ≤ z <;> by_cases h5 : y ≤ u' <;> simp [h1, h2, h3, h4, h5]
def countS (x y z u : Int) : Int := if fineB x y z u = true then (z - x + 1) * (u - y + 1) else 0
theorem fineB_iff (x y z u : Int) : fineB x y z u = true ↔ (1 ≤ x ∧ x ≤ z ∧ z ≤ 1000 ∧ 1 ≤ y ∧ y ≤ u ∧ u ≤ 50) := by
  unfold fineB
  simp [cellB_iff]
  constructor
  · rintro ⟨⟨⟨h1, h2⟩, h3⟩, h4⟩; omega
  · rintro h; exact ⟨⟨⟨by omega, by omega⟩, by omega⟩, by omega⟩
theorem count_eq (x y z u : Int) : addr_Count.f x y z u = some (countS x y z u) := by
  unfold addr_Count.f countS
  rw [fine_eq, Option.bind_some]
  by_cases h : fineB x y z u = true
  · rw [if_pos h, if_pos h]
    have hf := (fineB_iff x y z u).1 h
    rw [M.wrap64_id (n := z - x) (by unfold I64; omega), M.wrap64_id (n := u - y) (by unfold I64; omega), M.wrap64_id (n := z - x + 1) (by unfold I64; omega), M.wrap64_id (n := u - y + 1) (by unfold I64; omega)]
    have h1 : 0 ≤ (z - x + 1) * (u - y + 1) := Int.mul_nonneg (by omega) (by omega)
    have h2 : (z - x + 1) * (u - y + 1) ≤ 1000 * 50 := Int.mul_le_mul (by omega) (by omega) (by omega) (by omega)
    rw [M.wrap64_id (by unfold I64; omega)]
  · rw [if_neg h, if_neg h]
def madeS (x y z u : Int) : Int × Int × Int × Int × Bool := if cellB x y = true ∧ cellB z u = true then (mn x z, mn y u, mx x z, mx y u, true) else (0, 0, 0, 0, false)
theorem made_eq (x y z u : Int) : addr_Made.f x y z u = some (madeS x y z u) := by
  unfold addr_Made.f madeS
  rw [good_eq, Option.bind_some, good_eq, Option.bind_some]
  by_cases h1 : cellB x y = true <;> by_cases h2 : cellB z u = true <;> simp [h1, h2]
end Go.Proofs.YtmhjnkeflbklpaaDoor.P

namespace Go.Proofs.YtmhjnkeflbklpaaDoor.P
open Go.RowKit Go.Proofs.YtmhjnkeflbklpaaDoorW.PrintWords Go.Proofs.YtmhjnkeflbklpaaDoorW.PrintLast Go.Proofs.YtmhjnkeflbklpaaDoorW.PrintMore
attribute [local go_sem] max2_int min2_int max_two min_two max_three min_three max_four min_four   -- for this text's walks alone
set_option linter.unusedVariables false
set_option linter.unusedSimpArgs false

/-! ### cmp_Or_int: function 28 -/
def cmp_Or_int.l0 : Nat → Int → List Int → Int → Int → Option (Int)
  | 0, _, _, _, _ => none
  | k + 1, x3, x6, x7, x8 => if x8 < x7 then (if 0 ≤ x8 then (if x8 < (x6.length : Int) then (if (rd x6 x8) = x3 then (cmp_Or_int.l0 k x3 x6 x7 (wrap64 (x8 + 1))) else (some (rd x6 x8))) else (none)) else (none)) else (some x3)
def cmp_Or_int.f (k : Nat) (l0 : List Int) : Option (Int) := cmp_Or_int.l0 k 0 l0 (l0.length : Int) 0
theorem cmp_Or_int.mono_l : ∀ k, (∀ y0 y1 y2 y3, LeO (cmp_Or_int.l0 k y0 y1 y2 y3) (cmp_Or_int.l0 (k + 1) y0 y1 y2 y3))
  | 0 => fun _ _ _ _ r h => by simp [cmp_Or_int.l0] at h
  | k + 1 => by
    have ih0 := cmp_Or_int.mono_l k
    · intro y0 y1 y2 y3
      unfold cmp_Or_int.l0
      repeat' first
      | (with_reducible exact ih0 _ _ _ _)
      | (with_reducible exact LeO.refl _)
      | (with_reducible exact LeO.none _)
      | (with_reducible refine LeO.ite ?_ ?_)
      | (with_reducible refine LeO.bind ?_ (fun _ => ?_))
      | exact ih0 _ _ _ _
      | exact LeO.none _
      | refine LeO.ite ?_ ?_
      | refine LeO.bind ?_ (fun _ => ?_)
theorem cmp_Or_int.mono : ∀ a0 k, LeO (cmp_Or_int.f k a0) (cmp_Or_int.f (k + 1) a0) := by
  intro a0 k
  have ih0 := cmp_Or_int.mono_l k
  unfold cmp_Or_int.f
  repeat' first
      | (with_reducible exact ih0 _ _ _ _)
      | (with_reducible exact LeO.refl _)
      | (with_reducible exact LeO.none _)
      | (with_reducible refine LeO.ite ?_ ?_)
      | (with_reducible refine LeO.bind ?_ (fun _ => ?_))
      | exact ih0 _ _ _ _
      | exact LeO.none _
      | refine LeO.ite ?_ ?_
      | refine LeO.bind ?_ (fun _ => ?_)
set_option maxHeartbeats 8000000 in
set_option maxRecDepth 100000 in
theorem cmp_Or_int.calls (k : Nat) (A0 : Option Addr) (c0 : Nat) (l0 : List Int) (r : Int) (w : World) (hr0 : Kd.C (Kd.int .i64) w A0 l0.length l0) (hc0 : l0.length ≤ c0) (h : cmp_Or_int.f k l0 = some r) :
    Calls Tryd.prog 28 #[.slice A0 l0.length c0] w fun e w' => e = .returned (.int .i64 r) ∧ Drawn0 w w' := by
  have HR0 := Aside0.mk hr0
  have HC0 := Aside0.mk hc0
  clear hr0 hc0
  have H : (cmp_Or_int.l0 k 0 l0 (l0.length : Int) 0) = some r := h
  clear h
  have H' := Aside0.mk H
  clear H
  go_enter Tryd.func28, Tryd.ntmps28
  go_wp2
  go_loopg [8] k (fun kq v8 w' => ∃ (x8_1 : Int), v8 = .int .i64 x8_1 ∧ Aside0 (cmp_Or_int.l0 kq 0 l0 (l0.length : Int) x8_1 = some r) ∧ Aside0 (kq ≤ k) ∧ Drawn0 w w')
  case atStart => exact ⟨(0), (by first | rfl | (simp; done) | (simp [*]; done)), H', ⟨Nat.le_refl _⟩, by repeat (first | exact Drawn0.refl _ | apply Drawn0.step)⟩
  case round =>
    clear H'
    obtain ⟨x8_1, rfl, HA, HK1, ⟨m1, rfl⟩⟩ := hrel
    cases gk with
    | zero => exact absurd HA.out (by simp [cmp_Or_int.l0])
    | succ k1 =>
      have H := HA.out
      clear HA
      simp only [cmp_Or_int.l0] at H
      by_cases c2 : x8_1 < (l0.length : Int)
      · rw [if_pos c2] at H
        have c2b0 : decide (x8_1 < (l0.length : Int)) = true := decide_eq_true c2
        clear c2
        by_cases c3 : 0 ≤ x8_1
        · rw [if_pos c3] at H
          have c3b0 : decide (0 ≤ x8_1) = true := decide_eq_true c3
          clear c3
          by_cases c4 : x8_1 < (l0.length : Int)
          · rw [if_pos c4] at H
            have c4b0 : decide (x8_1 < (l0.length : Int)) = true := decide_eq_true c4
            clear c4
            by_cases c5 : (rd l0 x8_1) = 0
            · rw [if_pos c5] at H
              have c5b0 : ((rd l0 x8_1) == 0) = true := beq_iff_eq.mpr c5
              have c5b1 : ((rd l0 x8_1) != 0) = false := bne_eq_false_iff_eq.mpr c5
              clear c5
              have H' := Aside0.mk H
              clear H
              have p149 : 0 ≤ (x8_1 : Int) := of_decide_eq_true (by first | (with_reducible assumption) | assumption)
              have q149 : x8_1 < (l0.length : Int) := of_decide_eq_true (by first | (with_reducible assumption) | assumption)
              obtain ⟨ad149, e149, hx149_0⟩ := Kd.at_int HR0.out x8_1 p149 q149
              cases e149
              replace p149 := eq_true p149
              replace q149 := eq_true q149
              go_wp2
              go_roundg k1
              case measure => have := HK1.out; omega
              case rel => exact ⟨(wrap64 (x8_1 + 1)), (by first | rfl | (simp; done) | (simp [*]; done)), H', ⟨by have := HK1.out; omega⟩, by repeat (first | exact Drawn0.refl _ | apply Drawn0.step)⟩
            · rw [if_neg c5] at H
              have c5b0 : ((rd l0 x8_1) == 0) = false := beq_eq_false_iff_ne.mpr c5
              have c5b1 : ((rd l0 x8_1) != 0) = true := bne_iff_ne.mpr c5
              obtain rfl := Option.some.inj H
              have p149 : 0 ≤ (x8_1 : Int) := of_decide_eq_true (by first | (with_reducible assumption) | assumption)
              have q149 : x8_1 < (l0.length : Int) := of_decide_eq_true (by first | (with_reducible assumption) | assumption)
              obtain ⟨ad149, e149, hx149_0⟩ := Kd.at_int HR0.out x8_1 p149 q149
              cases e149
              replace p149 := eq_true p149
              replace q149 := eq_true q149
              go_wp2
              go_ret
              exact ⟨by first | rfl | (simp; done) | (simp [*]; done), by repeat (first | exact Drawn0.refl _ | apply Drawn0.step)⟩
          · rw [if_neg c4] at H
            exact absurd H (by simp)
        · rw [if_neg c3] at H
          exact absurd H (by simp)
      · rw [if_neg c2] at H
        have c2b0 : decide (x8_1 < (l0.length : Int)) = false := decide_eq_false c2
        clear c2
        obtain rfl := Option.some.inj H
        go_wp2
        go_ret
        exact ⟨by first | rfl | (simp; done) | (simp [*]; done), by repeat (first | exact Drawn0.refl _ | apply Drawn0.step)⟩

end Go.Proofs.YtmhjnkeflbklpaaDoor.P

namespace Go.Proofs.YtmhjnkeflbklpaaDoor.P
open Go.RowKit Go.Proofs.YtmhjnkeflbklpaaDoorW.PrintWords Go.Proofs.YtmhjnkeflbklpaaDoorW.PrintLast Go.Proofs.YtmhjnkeflbklpaaDoorW.PrintMore
attribute [local go_sem] max2_int min2_int max_two min_two max_three min_three max_four min_four   -- for this text's walks alone
set_option linter.unusedVariables false
set_option linter.unusedSimpArgs false

/-! ### cmp_isNaN_int: function 43 -/
def cmp_isNaN_int.f (a0 : Int) : Option (Bool) := some (a0 != a0)
set_option maxHeartbeats 8000000 in
set_option maxRecDepth 100000 in
theorem cmp_isNaN_int.calls (a0 : Int) (r : Bool) (w : World) (h : cmp_isNaN_int.f a0 = some r) :
    Calls Tryd.prog 43 #[.int .i64 a0] w fun e w' => e = .returned (.bool r) ∧ Drawn0 w w' := by
  have H : (some (a0 != a0)) = some r := h
  clear h
  obtain rfl := Option.some.inj H
  go_enter Tryd.func43, Tryd.ntmps43
  go_wp2
  go_ret
  exact ⟨by first | rfl | (simp; done) | (simp [*]; done), by repeat (first | exact Drawn0.refl _ | apply Drawn0.step)⟩

end Go.Proofs.YtmhjnkeflbklpaaDoor.P

namespace Go.Proofs.YtmhjnkeflbklpaaDoor.P
open Go.RowKit Go.Proofs.YtmhjnkeflbklpaaDoorW.PrintWords Go.Proofs.YtmhjnkeflbklpaaDoorW.PrintLast Go.Proofs.YtmhjnkeflbklpaaDoorW.PrintMore
attribute [local go_sem] max2_int min2_int max_two min_two max_three min_three max_four min_four   -- for this text's walks alone
set_option linter.unusedVariables false
set_option linter.unusedSimpArgs false

/-! ### cmp_Compare_int: function 29 -/
def cmp_Compare_int.f (a0 : Int) (a1 : Int) : Option (Int) := (cmp_isNaN_int.f a0).bind fun t150 => ((cmp_isNaN_int.f a1).bind fun t151 => (if t150 = true then (if t151 = true then (some 0) else (some (-1))) else (if t151 = true then (some 1) else (if a0 < a1 then (some (-1)) else (if a0 > a1 then (some 1) else (some 0))))))
set_option maxHeartbeats 8000000 in
set_option maxRecDepth 100000 in
theorem cmp_Compare_int.calls (a0 : Int) (a1 : Int) (r : Int) (w : World) (h : cmp_Compare_int.f a0 a1 = some r) :
    Calls Tryd.prog 29 #[.int .i64 a0, .int .i64 a1] w fun e w' => e = .returned (.int .i64 r) ∧ Drawn0 w w' := by
  have H : ((cmp_isNaN_int.f a0).bind fun t150 => ((cmp_isNaN_int.f a1).bind fun t151 => (if t150 = true then (if t151 = true then (some 0) else (some (-1))) else (if t151 = true then (some 1) else (if a0 < a1 then (some (-1)) else (if a0 > a1 then (some 1) else (some 0))))))) = some r := h
  clear h
  replace H := Option.bind_eq_some_iff.mp H
  obtain ⟨t150, A30, H⟩ := H
  replace H : ((cmp_isNaN_int.f a1).bind fun t151 => (if t150 = true then (if t151 = true then (some 0) else (some (-1))) else (if t151 = true then (some 1) else (if a0 < a1 then (some (-1)) else (if a0 > a1 then (some 1) else (some 0)))))) = some r := H
  have A3 := Aside0.mk A30
  clear A30
  replace H := Option.bind_eq_some_iff.mp H
  obtain ⟨t151, A40, H⟩ := H
  replace H : (if t150 = true then (if t151 = true then (some 0) else (some (-1))) else (if t151 = true then (some 1) else (if a0 < a1 then (some (-1)) else (if a0 > a1 then (some 1) else (some 0))))) = some r := H
  have A4 := Aside0.mk A40
  clear A40
  by_cases c5 : t150 = true
  · subst c5
    have H1 : (if t151 = true then (some 0) else (some (-1))) = some r := by rw [if_pos rfl] at H; exact H
    clear H
    have H := H1
    clear H1
    by_cases c6 : t151 = true
    · subst c6
      have H1 : (some 0) = some r := by rw [if_pos rfl] at H; exact H
      clear H
      have H := H1
      clear H1
      obtain rfl := Option.some.inj H
      go_enter Tryd.func29, Tryd.ntmps29
      go_wp2_with (first | ((with_reducible refine gate_callee (f := 43) rfl ?_); refine goesL_ (some 8) rfl rfl Tryd.func43 (by kernel_rfl) rfl #[.int .i64 a0] rfl (by (try simp only [List.map_toArray, List.map_cons, List.map_nil]); first | done | rfl | (simp only [List.length_drop, List.length_take]; rfl)) ?_; (with_reducible refine (cmp_isNaN_int.calls a0 true _ A3.out).mono ?_); rintro e w' ⟨rfl, ⟨nd, rfl⟩⟩; refine ⟨_, rfl, ?_⟩) | ((with_reducible refine gate_callee (f := 43) rfl ?_); refine goesL_ (some 10) rfl rfl Tryd.func43 (by kernel_rfl) rfl #[.int .i64 a1] rfl (by (try simp only [List.map_toArray, List.map_cons, List.map_nil]); first | done | rfl | (simp only [List.length_drop, List.length_take]; rfl)) ?_; (with_reducible refine (cmp_isNaN_int.calls a1 true _ A4.out).mono ?_); rintro e w' ⟨rfl, ⟨nd, rfl⟩⟩; refine ⟨_, rfl, ?_⟩))
      go_ret
      exact ⟨by first | rfl | (simp; done) | (simp [*]; done), by repeat (first | exact Drawn0.refl _ | apply Drawn0.step)⟩
    · replace c6 := Bool.eq_false_iff.mpr c6
      subst c6
      have H1 : (some (-1)) = some r := by rw [if_neg (show ¬ (false = true) by decide)] at H; exact H
      clear H
      have H := H1
      clear H1
      obtain rfl := Option.some.inj H
      go_enter Tryd.func29, Tryd.ntmps29
      go_wp2_with (first | ((with_reducible refine gate_callee (f := 43) rfl ?_); refine goesL_ (some 8) rfl rfl Tryd.func43 (by kernel_rfl) rfl #[.int .i64 a0] rfl (by (try simp only [List.map_toArray, List.map_cons, List.map_nil]); first | done | rfl | (simp only [List.length_drop, List.length_take]; rfl)) ?_; (with_reducible refine (cmp_isNaN_int.calls a0 true _ A3.out).mono ?_); rintro e w' ⟨rfl, ⟨nd, rfl⟩⟩; refine ⟨_, rfl, ?_⟩) | ((with_reducible refine gate_callee (f := 43) rfl ?_); refine goesL_ (some 10) rfl rfl Tryd.func43 (by kernel_rfl) rfl #[.int .i64 a1] rfl (by (try simp only [List.map_toArray, List.map_cons, List.map_nil]); first | done | rfl | (simp only [List.length_drop, List.length_take]; rfl)) ?_; (with_reducible refine (cmp_isNaN_int.calls a1 false _ A4.out).mono ?_); rintro e w' ⟨rfl, ⟨nd, rfl⟩⟩; refine ⟨_, rfl, ?_⟩))
      go_ret
      exact ⟨by first | rfl | (simp; done) | (simp [*]; done), by repeat (first | exact Drawn0.refl _ | apply Drawn0.step)⟩
  · replace c5 := Bool.eq_false_iff.mpr c5
    subst c5
    have H1 : (if t151 = true then (some 1) else (if a0 < a1 then (some (-1)) else (if a0 > a1 then (some 1) else (some 0)))) = some r := by rw [if_neg (show ¬ (false = true) by decide)] at H; exact H
    clear H
    have H := H1
    clear H1
    by_cases c7 : t151 = true
    · subst c7
      have H1 : (some 1) = some r := by rw [if_pos rfl] at H; exact H
      clear H
      have H := H1
      clear H1
      obtain rfl := Option.some.inj H
      go_enter Tryd.func29, Tryd.ntmps29
      go_wp2_with (first | ((with_reducible refine gate_callee (f := 43) rfl ?_); refine goesL_ (some 8) rfl rfl Tryd.func43 (by kernel_rfl) rfl #[.int .i64 a0] rfl (by (try simp only [List.map_toArray, List.map_cons, List.map_nil]); first | done | rfl | (simp only [List.length_drop, List.length_take]; rfl)) ?_; (with_reducible refine (cmp_isNaN_int.calls a0 false _ A3.out).mono ?_); rintro e w' ⟨rfl, ⟨nd, rfl⟩⟩; refine ⟨_, rfl, ?_⟩) | ((with_reducible refine gate_callee (f := 43) rfl ?_); refine goesL_ (some 10) rfl rfl Tryd.func43 (by kernel_rfl) rfl #[.int .i64 a1] rfl (by (try simp only [List.map_toArray, List.map_cons, List.map_nil]); first | done | rfl | (simp only [List.length_drop, List.length_take]; rfl)) ?_; (with_reducible refine (cmp_isNaN_int.calls a1 true _ A4.out).mono ?_); rintro e w' ⟨rfl, ⟨nd, rfl⟩⟩; refine ⟨_, rfl, ?_⟩))
      go_ret
      exact ⟨by first | rfl | (simp; done) | (simp [*]; done), by repeat (first | exact Drawn0.refl _ | apply Drawn0.step)⟩
    · replace c7 := Bool.eq_false_iff.mpr c7
      subst c7
      have H1 : (if a0 < a1 then (some (-1)) else (if a0 > a1 then (some 1) else (some 0))) = some r := by rw [if_neg (show ¬ (false = true) by decide)] at H; exact H
      clear H
      have H := H1
      clear H1
      by_cases c8 : a0 < a1
      · rw [if_pos c8] at H
        have c8b0 : decide (a0 < a1) = true := decide_eq_true c8
        clear c8
        obtain rfl := Option.some.inj H
        go_enter Tryd.func29, Tryd.ntmps29
        go_wp2_with (first | ((with_reducible refine gate_callee (f := 43) rfl ?_); refine goesL_ (some 8) rfl rfl Tryd.func43 (by kernel_rfl) rfl #[.int .i64 a0] rfl (by (try simp only [List.map_toArray, List.map_cons, List.map_nil]); first | done | rfl | (simp only [List.length_drop, List.length_take]; rfl)) ?_; (with_reducible refine (cmp_isNaN_int.calls a0 false _ A3.out).mono ?_); rintro e w' ⟨rfl, ⟨nd, rfl⟩⟩; refine ⟨_, rfl, ?_⟩) | ((with_reducible refine gate_callee (f := 43) rfl ?_); refine goesL_ (some 10) rfl rfl Tryd.func43 (by kernel_rfl) rfl #[.int .i64 a1] rfl (by (try simp only [List.map_toArray, List.map_cons, List.map_nil]); first | done | rfl | (simp only [List.length_drop, List.length_take]; rfl)) ?_; (with_reducible refine (cmp_isNaN_int.calls a1 false _ A4.out).mono ?_); rintro e w' ⟨rfl, ⟨nd, rfl⟩⟩; refine ⟨_, rfl, ?_⟩))
        go_ret
        exact ⟨by first | rfl | (simp; done) | (simp [*]; done), by repeat (first | exact Drawn0.refl _ | apply Drawn0.step)⟩
      · rw [if_neg c8] at H
        have c8b0 : decide (a0 < a1) = false := decide_eq_false c8
        clear c8
        by_cases c9 : a0 > a1
        · rw [if_pos c9] at H
          have c9b0 : decide (a1 < a0) = true := decide_eq_true c9
          clear c9
          obtain rfl := Option.some.inj H
          go_enter Tryd.func29, Tryd.ntmps29
          go_wp2_with (first | ((with_reducible refine gate_callee (f := 43) rfl ?_); refine goesL_ (some 8) rfl rfl Tryd.func43 (by kernel_rfl) rfl #[.int .i64 a0] rfl (by (try simp only [List.map_toArray, List.map_cons, List.map_nil]); first | done | rfl | (simp only [List.length_drop, List.length_take]; rfl)) ?_; (with_reducible refine (cmp_isNaN_int.calls a0 false _ A3.out).mono ?_); rintro e w' ⟨rfl, ⟨nd, rfl⟩⟩; refine ⟨_, rfl, ?_⟩) | ((with_reducible refine gate_callee (f := 43) rfl ?_); refine goesL_ (some 10) rfl rfl Tryd.func43 (by kernel_rfl) rfl #[.int .i64 a1] rfl (by (try simp only [List.map_toArray, List.map_cons, List.map_nil]); first | done | rfl | (simp only [List.length_drop, List.length_take]; rfl)) ?_; (with_reducible refine (cmp_isNaN_int.calls a1 false _ A4.out).mono ?_); rintro e w' ⟨rfl, ⟨nd, rfl⟩⟩; refine ⟨_, rfl, ?_⟩))
          go_ret
          exact ⟨by first | rfl | (simp; done) | (simp [*]; done), by repeat (first | exact Drawn0.refl _ | apply Drawn0.step)⟩
        · rw [if_neg c9] at H
          have c9b0 : decide (a1 < a0) = false := decide_eq_false c9
          clear c9
          obtain rfl := Option.some.inj H
          go_enter Tryd.func29, Tryd.ntmps29
          go_wp2_with (first | ((with_reducible refine gate_callee (f := 43) rfl ?_); refine goesL_ (some 8) rfl rfl Tryd.func43 (by kernel_rfl) rfl #[.int .i64 a0] rfl (by (try simp only [List.map_toArray, List.map_cons, List.map_nil]); first | done | rfl | (simp only [List.length_drop, List.length_take]; rfl)) ?_; (with_reducible refine (cmp_isNaN_int.calls a0 false _ A3.out).mono ?_); rintro e w' ⟨rfl, ⟨nd, rfl⟩⟩; refine ⟨_, rfl, ?_⟩) | ((with_reducible refine gate_callee (f := 43) rfl ?_); refine goesL_ (some 10) rfl rfl Tryd.func43 (by kernel_rfl) rfl #[.int .i64 a1] rfl (by (try simp only [List.map_toArray, List.map_cons, List.map_nil]); first | done | rfl | (simp only [List.length_drop, List.length_take]; rfl)) ?_; (with_reducible refine (cmp_isNaN_int.calls a1 false _ A4.out).mono ?_); rintro e w' ⟨rfl, ⟨nd, rfl⟩⟩; refine ⟨_, rfl, ?_⟩))
          go_ret
          exact ⟨by first | rfl | (simp; done) | (simp [*]; done), by repeat (first | exact Drawn0.refl _ | apply Drawn0.step)⟩

end Go.Proofs.YtmhjnkeflbklpaaDoor.P

namespace Go.Proofs.YtmhjnkeflbklpaaDoor.P
open Go.RowKit Go.Proofs.YtmhjnkeflbklpaaDoorW.PrintWords Go.Proofs.YtmhjnkeflbklpaaDoorW.PrintLast Go.Proofs.YtmhjnkeflbklpaaDoorW.PrintMore
attribute [local go_sem] max2_int min2_int max_two min_two max_three min_three max_four min_four   -- for this text's walks alone
set_option linter.unusedVariables false
set_option linter.unusedSimpArgs false

/-! ### addr_Before: function 12 -/
def addr_Before.f (k : Nat) (a0_0 : Int) (a0_1 : Int) (a1_0 : Int) (a1_1 : Int) : Option (Bool) := (cmp_Compare_int.f a0_0 a1_0).bind fun t154 => ((cmp_Compare_int.f a0_1 a1_1).bind fun t155 => ((cmp_Or_int.f k (([t154, t155] : List Int))).bind fun t159 => (some (decide (t159 < 0)))))
theorem addr_Before.mono : ∀ a0 a1 a2 a3 k, LeO (addr_Before.f k a0 a1 a2 a3) (addr_Before.f (k + 1) a0 a1 a2 a3) := by
  intro a0 a1 a2 a3 k
  unfold addr_Before.f
  repeat' first
      | (with_reducible exact cmp_Or_int.mono _ _)
      | (with_reducible exact LeO.refl _)
      | (with_reducible exact LeO.none _)
      | (with_reducible refine LeO.ite ?_ ?_)
      | (with_reducible refine LeO.bind ?_ (fun _ => ?_))
      | exact cmp_Or_int.mono _ _
      | exact LeO.none _
      | refine LeO.ite ?_ ?_
      | refine LeO.bind ?_ (fun _ => ?_)
def addr_Before.T1 : Bool × List (List Nat × List Nat) := (true, [([], []), ([0], [0]), ([], []), ([2], [2]), ([1, 3], [1, 3]), ([], []), ([5], [5]), ([], []), ([7], [7]), ([6, 8, 4], [6, 8]), ([4, 9], [4, 9]), ([10, 9], [10]), ([11], [11]), ([12, 11, 0, 1, 2, 3, 4, 5, 6, 7, 8, 9, 10, 11, 12], [12])])
def addr_Before.B1 : List Nat := [0, 1, 0, 4, 15, 0, 32, 0, 128, 511, 1023, 2047, 4095, 8191]
theorem addr_Before.tab1 : rtab .any (opsOf Tryd.f12 1) = addr_Before.T1 := by kernel_rfl
theorem addr_Before.bits1 : waitsOk addr_Before.T1.2 addr_Before.B1 = true := by kernel_rfl
set_option maxHeartbeats 8000000 in
set_option maxRecDepth 100000 in
theorem addr_Before.calls (k : Nat) (a0_0 : Int) (a0_1 : Int) (a1_0 : Int) (a1_1 : Int) (r : Bool) (w : World) (h : addr_Before.f k a0_0 a0_1 a1_0 a1_1 = some r) :
    Calls Tryd.prog 12 #[.agg #[.int .i64 a0_0, .int .i64 a0_1], .agg #[.int .i64 a1_0, .int .i64 a1_1]] w fun e w' => e = .returned (.bool r) ∧ Below w.heap.size w w' := by
  have hu25 := Tryd.underlying25
  have HB := Aside0.mk (Below.refl w.heap.size w)
  have H : ((cmp_Compare_int.f a0_0 a1_0).bind fun t154 => ((cmp_Compare_int.f a0_1 a1_1).bind fun t155 => ((cmp_Or_int.f k (([t154, t155] : List Int))).bind fun t159 => (some (decide (t159 < 0)))))) = some r := h
  clear h
  replace H := Option.bind_eq_some_iff.mp H
  obtain ⟨t154, A30, H⟩ := H
  replace H : ((cmp_Compare_int.f a0_1 a1_1).bind fun t155 => ((cmp_Or_int.f k (([t154, t155] : List Int))).bind fun t159 => (some (decide (t159 < 0))))) = some r := H
  have A3 := Aside0.mk A30
  clear A30
  replace H := Option.bind_eq_some_iff.mp H
  obtain ⟨t155, A40, H⟩ := H
  replace H : ((cmp_Or_int.f k (([t154, t155] : List Int))).bind fun t159 => (some (decide (t159 < 0)))) = some r := H
  have A4 := Aside0.mk A40
  clear A40
  obtain ⟨y156, hy156⟩ : ∃ y_ : List Int, y_ = (([t154, t155] : List Int)) := ⟨_, rfl⟩
  replace H : ((cmp_Or_int.f k y156).bind fun t159 => (some (decide (t159 < 0)))) = some r := by first | (rw [hy156]; with_reducible exact H) | (have H2_ := (Option.bind_some _ _).symm.trans H; rw [hy156]; with_reducible exact H2_) | (have H2_ := (Option.bind_some _ _).symm.trans H; with_reducible exact H2_) | with_reducible exact H | (rw [hy156]; exact H) | exact H
  have Ny156 := Aside0.mk hy156
  clear hy156
  replace H := Option.bind_eq_some_iff.mp H
  obtain ⟨t159, A50, H⟩ := H
  replace H : (some (decide (t159 < 0))) = some r := H
  have A5 := Aside0.mk A50
  clear A50
  obtain rfl := Option.some.inj H
  go_enter Tryd.func12, Tryd.ntmps12
  try go_wp2_with (first | ((with_reducible refine gate_dst (N := 2) rfl ?_); refine box_event ?hg (N := 2) ?hd (cs := #[.int .i64 a0_0, .int .i64 a0_1]) (t := 25) ?hr ?_; (case hd => rfl); (case hg => rfl); (case hr => first | (go_simp; done) | (go_simp; rfl)); intro gb152 hg w6 hbox hb; have n0_ := Aside0.mk (below_step (by repeat (first | (with_reducible first | exact HB.out | apply below_alloc | apply pw_below_drewN | apply below_drew1) | exact HB.out)) hb); have n1_ := Aside0.mk (hbox); have n2_ := Aside0.mk ((by rw [hg]; exact (below_size (by repeat (first | (with_reducible first | exact HB.out | apply below_alloc | apply pw_below_drewN | apply below_drew1) | exact HB.out))) : w.heap.size ≤ gb152)); have n3_ := Aside0.mk ((by rw [hg]; exact (below_size (by repeat (first | (with_reducible first | exact HB.out | apply below_alloc | apply pw_below_drewN | apply below_drew1) | exact HB.out))) : w.heap.size ≤ gb152)); clear HB; have HB := n0_; have BK152 := n1_; have GW152 := n2_; have GE152 := n3_; clear n0_ n1_ n2_ n3_; clear hb hbox hg) | ((with_reducible refine gate_dst (N := 3) rfl ?_); refine box_event ?hg (N := 3) ?hd (cs := #[.int .i64 a1_0, .int .i64 a1_1]) (t := 25) ?hr ?_; (case hd => rfl); (case hg => rfl); (case hr => first | (go_simp; done) | (go_simp; rfl)); intro gb153 hg w7 hbox hb; have n0_ := Aside0.mk (blk_below (g := gb152) (o := .cells #[.int .i64 a0_0, .int .i64 a0_1] 25 (0, 0)) (by (with_reducible repeat (first | refine blk_drewN ?_ _ | refine blk_drew ?_ | refine blk_alloc ?_ _)); exact BK152.out) hb); have n1_ := Aside0.mk (below_step (by repeat (first | (with_reducible first | exact HB.out | apply below_alloc | apply pw_below_drewN | apply below_drew1 | refine below_set ?_ GE152.out) | exact HB.out)) hb); have n2_ := Aside0.mk (hbox); have n3_ := Aside0.mk ((by rw [hg]; exact (below_size (by repeat (first | (with_reducible first | exact HB.out | apply below_alloc | apply pw_below_drewN | apply below_drew1 | refine below_set ?_ GE152.out) | exact HB.out))) : w.heap.size ≤ gb153)); have n4_ := Aside0.mk ((by rw [hg]; exact (below_size (by repeat (first | (with_reducible first | exact HB.out | apply below_alloc | apply pw_below_drewN | apply below_drew1 | refine below_set ?_ GE152.out) | exact HB.out))) : w.heap.size ≤ gb153)); have n5_ := Aside0.mk ((by rw [hg]; exact Nat.ne_of_lt (blk_lt (g := gb152) (o := .cells #[.int .i64 a0_0, .int .i64 a0_1] 25 (0, 0)) (by (with_reducible repeat (first | refine blk_drewN ?_ _ | refine blk_drew ?_ | refine blk_alloc ?_ _)); exact BK152.out)) : gb152 ≠ gb153)); have n6_ := Aside0.mk ((by rw [hg]; exact Nat.ne_of_gt (blk_lt (g := gb152) (o := .cells #[.int .i64 a0_0, .int .i64 a0_1] 25 (0, 0)) (by (with_reducible repeat (first | refine blk_drewN ?_ _ | refine blk_drew ?_ | refine blk_alloc ?_ _)); exact BK152.out)) : gb153 ≠ gb152)); clear BK152; clear HB; have BK152 := n0_; have HB := n1_; have BK153 := n2_; have GW153 := n3_; have GE153 := n4_; have NB152_153 := n5_; have NB153_152 := n6_; clear n0_ n1_ n2_ n3_ n4_ n5_ n6_; clear hb hbox hg))
  have n0_ := Aside0.mk (blk_drew BK152.out)
  have n1_ := Aside0.mk (blk_drew BK153.out)
  have n2_ := Aside0.mk (below_drew1 HB.out)
  clear BK152
  clear BK153
  clear HB
  have BK152 := n0_
  have BK153 := n1_
  have HB := n2_
  clear n0_ n1_ n2_
  refine start_ (n := 14) (S := fun w' => w'.cell? ⟨gb152, 0, none⟩ = some (.int .i64 a0_0) ∧ w'.cell? ⟨gb152, 1, none⟩ = some (.int .i64 a0_1) ∧ w'.cell? ⟨gb153, 0, none⟩ = some (.int .i64 a1_0) ∧ w'.cell? ⟨gb153, 1, none⟩ = some (.int .i64 a1_1)) (ds := []) #[false, false, false, false, false, false, false, false, false, false, false, false, false, false] (by kernel_rfl) rfl rfl ⟨(blk_cell BK152.out 0).trans rfl, (blk_cell BK152.out 1).trans rfl, (blk_cell BK153.out 0).trans rfl, (blk_cell BK153.out 1).trans rfl⟩ (fun hHeld => ?_); refine with_tabW addr_Before.tab1 addr_Before.bits1 (fun HT_ HW_ => ?_)
  generalize w7.drew = w8 at BK152 BK153 HB hHeld ⊢
  refine pure_ (i := 0) (N := some 5) (v := ?_) (a' := ?_) #[true, false, false, false, false, false, false, false, false, false, false, false, false, false] rfl rfl (any_of HT_.out (by kernel_rfl)) (fun _ _ _ h => h) (Or.inl ⟨by rfl, ?_⟩) ?_ ?_
  rotate_left
  · intro w'
    go_simp
    with_reducible rfl
  rotate_left
  · simp only [Act.put, List.setIfInBounds_toArray, List.set_cons_zero, List.set_cons_succ, i64_w, i32_w]
    rfl
  refine pure_ (i := 2) (N := some 7) (v := ?_) (a' := ?_) #[true, false, true, false, false, false, false, false, false, false, false, false, false, false] rfl rfl (any_of HT_.out (by kernel_rfl)) (fun _ _ _ h => h) (Or.inl ⟨by rfl, ?_⟩) ?_ ?_
  rotate_left
  · intro w'
    go_simp
    with_reducible rfl
  rotate_left
  · simp only [Act.put, List.setIfInBounds_toArray, List.set_cons_zero, List.set_cons_succ, i64_w, i32_w]
    rfl
  refine pure_ (i := 5) (N := some 10) (v := ?_) (a' := ?_) #[true, false, true, false, false, true, false, false, false, false, false, false, false, false] rfl rfl (any_of HT_.out (by kernel_rfl)) (fun _ _ _ h => h) (Or.inl ⟨by rfl, ?_⟩) ?_ ?_
  rotate_left
  · intro w'
    go_simp
    with_reducible rfl
  rotate_left
  · simp only [Act.put, List.setIfInBounds_toArray, List.set_cons_zero, List.set_cons_succ, i64_w, i32_w]
    rfl
  refine pure_ (i := 7) (N := some 12) (v := ?_) (a' := ?_) #[true, false, true, false, false, true, false, true, false, false, false, false, false, false] rfl rfl (any_of HT_.out (by kernel_rfl)) (fun _ _ _ h => h) (Or.inl ⟨by rfl, ?_⟩) ?_ ?_
  rotate_left
  · intro w'
    go_simp
    with_reducible rfl
  rotate_left
  · simp only [Act.put, List.setIfInBounds_toArray, List.set_cons_zero, List.set_cons_succ, i64_w, i32_w]
    rfl
  refine take_ (i := 1) (N := some 6) (v := ?_) (a' := ?_) #[true, true, true, false, false, true, false, true, false, false, false, false, false, false] rfl rfl (take_ofW HT_.out HW_.out (by kernel_rfl)) (fun _ _ _ h => h) (Or.inl ⟨by rfl, ?_⟩) hHeld ?_ ?_
  rotate_left
  · rintro w' ⟨s0, s1, s2, s3⟩
    go_simp
    with_reducible rfl
  rotate_left
  · simp only [Act.put, List.setIfInBounds_toArray, List.set_cons_zero, List.set_cons_succ, i64_w, i32_w]
    rfl
  refine take_ (i := 3) (N := some 8) (v := ?_) (a' := ?_) #[true, true, true, true, false, true, false, true, false, false, false, false, false, false] rfl rfl (take_ofW HT_.out HW_.out (by kernel_rfl)) (fun _ _ _ h => h) (Or.inl ⟨by rfl, ?_⟩) hHeld ?_ ?_
  rotate_left
  · rintro w' ⟨s0, s1, s2, s3⟩
    go_simp
    with_reducible rfl
  rotate_left
  · simp only [Act.put, List.setIfInBounds_toArray, List.set_cons_zero, List.set_cons_succ, i64_w, i32_w]
    rfl
  refine take_ (i := 6) (N := some 11) (v := ?_) (a' := ?_) #[true, true, true, true, false, true, true, true, false, false, false, false, false, false] rfl rfl (take_ofW HT_.out HW_.out (by kernel_rfl)) (fun _ _ _ h => h) (Or.inl ⟨by rfl, ?_⟩) hHeld ?_ ?_
  rotate_left
  · rintro w' ⟨s0, s1, s2, s3⟩
    go_simp
    with_reducible rfl
  rotate_left
  · simp only [Act.put, List.setIfInBounds_toArray, List.set_cons_zero, List.set_cons_succ, i64_w, i32_w]
    rfl
  refine take_ (i := 8) (N := some 13) (v := ?_) (a' := ?_) #[true, true, true, true, false, true, true, true, true, false, false, false, false, false] rfl rfl (take_ofW HT_.out HW_.out (by kernel_rfl)) (fun _ _ _ h => h) (Or.inl ⟨by rfl, ?_⟩) hHeld ?_ ?_
  rotate_left
  · rintro w' ⟨s0, s1, s2, s3⟩
    go_simp
    with_reducible rfl
  rotate_left
  · simp only [Act.put, List.setIfInBounds_toArray, List.set_cons_zero, List.set_cons_succ, i64_w, i32_w]
    rfl
  refine one_ (i := 4) (N := some 9) #[true, true, true, true, true, true, true, true, true, false, false, false, false, false] rfl rfl (one_of HT_.out (by kernel_rfl)) (by decide) (fun K hK => ?_)
  refine goes_ Tryd.func29 (by kernel_rfl) rfl #[.int .i64 a0_0, .int .i64 a1_0] (by rfl) rfl rfl (by (try simp only [List.map_toArray, List.map_cons, List.map_nil]); first | done | rfl | (simp only [List.length_drop, List.length_take]; rfl)) ?_
  with_reducible refine (cmp_Compare_int.calls a0_0 a1_0 t154 _ A3.out).mono ?_
  rintro e w' ⟨rfl, ⟨nd, rfl⟩⟩
  refine ⟨_, rfl, ?_⟩
  refine hK.out _ _ ⟨(blk_cell BK152.out 0).trans rfl, (blk_cell BK152.out 1).trans rfl, (blk_cell BK153.out 0).trans rfl, (blk_cell BK153.out 1).trans rfl⟩ (fun hHeld => ?_)
  clear hK K
  refine norm_ (a' := ?_) ?_ ?_
  rotate_left
  · show Act.put _ (some 9) _ = _
    simp only [Act.put, List.setIfInBounds_toArray, List.set_cons_zero, List.set_cons_succ, i64_w, i32_w]
    rfl
  refine one_ (i := 9) (N := some 14) #[true, true, true, true, true, true, true, true, true, true, false, false, false, false] rfl rfl (one_of HT_.out (by kernel_rfl)) (by decide) (fun K hK => ?_)
  refine goes_ Tryd.func29 (by kernel_rfl) rfl #[.int .i64 a0_1, .int .i64 a1_1] (by rfl) rfl rfl (by (try simp only [List.map_toArray, List.map_cons, List.map_nil]); first | done | rfl | (simp only [List.length_drop, List.length_take]; rfl)) ?_
  with_reducible refine (cmp_Compare_int.calls a0_1 a1_1 t155 _ A4.out).mono ?_
  rintro e w' ⟨rfl, ⟨nd, rfl⟩⟩
  refine ⟨_, rfl, ?_⟩
  refine hK.out _ _ ⟨(blk_cell BK152.out 0).trans rfl, (blk_cell BK152.out 1).trans rfl, (blk_cell BK153.out 0).trans rfl, (blk_cell BK153.out 1).trans rfl⟩ (fun hHeld => ?_)
  clear hK K
  refine norm_ (a' := ?_) ?_ ?_
  rotate_left
  · show Act.put _ (some 14) _ = _
    simp only [Act.put, List.setIfInBounds_toArray, List.set_cons_zero, List.set_cons_succ, i64_w, i32_w]
    rfl
  refine one_ (i := 10) (N := some 15) #[true, true, true, true, true, true, true, true, true, true, true, false, false, false] rfl rfl (one_of HT_.out (by kernel_rfl)) (by decide) (fun K hK => ?_)
  refine Kd.R_lit_step (Kd.int .i64) _ 3 ?hg (N := 15) ?hd (xs := ([t154, t155] : List Int)) (inner := [.int .i64 t154, .int .i64 t155]) (ok := fun _ => True) (okp := fun _ => True) ?hr ?hp (fun _ hk => hk) trivial (Below.refl _ _) (Nat.le_refl _) (by simp) ?_; (case hd => rfl); (case hg => rfl); (case hr => first | (go_simp; done) | (go_simp; rfl)); (case hp => exact (Reps.one (show Kd.M (Kd.int .i64) _ _ _ t154 [.int .i64 t154] from rfl) (Reps.one (show Kd.M (Kd.int .i64) _ _ _ t155 [.int .i64 t155] from rfl) (Reps.none _ _))))
  intro v157 w9 ho10 hb hg_ hnew_
  clear hg_ hnew_
  (first | rw [← Ny156.out] at ho10 | (simp only [Int.reduceToNat] at ho10; rw [← Ny156.out] at ho10))
  have n0_ := Aside0.mk (Kd.R_lower ho10 (below_size (by repeat (first | (with_reducible first | exact HB.out | apply below_alloc | apply pw_below_drewN | apply below_drew1 | refine below_set ?_ GE152.out | refine below_set ?_ GE153.out) | exact HB.out))))
  have n1_ := Aside0.mk (blk_below (g := gb152) (o := .cells #[.int .i64 a0_0, .int .i64 a0_1] 25 (0, 0)) (by (with_reducible repeat (first | refine blk_drewN ?_ _ | refine blk_drew ?_ | refine blk_alloc ?_ _)); exact BK152.out) hb)
  have n2_ := Aside0.mk (blk_below (g := gb153) (o := .cells #[.int .i64 a1_0, .int .i64 a1_1] 25 (0, 0)) (by (with_reducible repeat (first | refine blk_drewN ?_ _ | refine blk_drew ?_ | refine blk_alloc ?_ _)); exact BK153.out) hb)
  have n3_ := Aside0.mk (below_step (by repeat (first | (with_reducible first | exact HB.out | apply below_alloc | apply pw_below_drewN | apply below_drew1 | refine below_set ?_ GE152.out | refine below_set ?_ GE153.out) | exact HB.out)) hb)
  clear BK152
  clear BK153
  clear HB
  have HO158 := n0_
  have BK152 := n1_
  have BK153 := n2_
  have HB := n3_
  clear n0_ n1_ n2_ n3_
  clear hb ho10
  obtain ⟨Ao11, co11, eo11⟩ := Kd.R_slice HO158.out
  (first | subst eo11 | (injection eo11 with f1_ f2_ f3_; have f4_ := f1_.symm; have f5_ := f3_.symm; clear f1_ f2_ f3_; subst f4_; subst f5_))
  refine hK.out _ _ ⟨(blk_cell BK152.out 0).trans rfl, (blk_cell BK152.out 1).trans rfl, (blk_cell BK153.out 0).trans rfl, (blk_cell BK153.out 1).trans rfl⟩ (fun hHeld => ?_)
  clear hK K
  refine norm_ (a' := ?_) ?_ ?_
  rotate_left
  · show Act.put _ (some 15) _ = _
    simp only [Act.put, List.setIfInBounds_toArray, List.set_cons_zero, List.set_cons_succ, i64_w, i32_w]
    rfl
  refine one_ (i := 11) (N := some 16) #[true, true, true, true, true, true, true, true, true, true, true, true, false, false] rfl rfl (one_of HT_.out (by kernel_rfl)) (by decide) (fun K hK => ?_)
  refine goes_ Tryd.func28 (by kernel_rfl) rfl #[.slice Ao11 y156.length co11] (by rfl) rfl rfl (by (try simp only [List.map_toArray, List.map_cons, List.map_nil]); first | done | rfl | (simp only [List.length_drop, List.length_take]; rfl)) ?_
  with_reducible refine (cmp_Or_int.calls k _ _ y156 t159 _ ?side1 ?side2 A5.out).mono ?_
  (case side1 => repeat (first | exact (Kd.R_reads' HO158.out).2.2 | (with_reducible refine Kd.C_alloc ?_ _) | (with_reducible refine Kd.C_drewN ?_ _) | (with_reducible refine Kd.C_drew ?_)))
  (case side2 => exact (Kd.R_reads' HO158.out).2.1)
  rintro e w' ⟨rfl, ⟨nd, rfl⟩⟩
  refine ⟨_, rfl, ?_⟩
  refine hK.out _ _ ⟨(blk_cell BK152.out 0).trans rfl, (blk_cell BK152.out 1).trans rfl, (blk_cell BK153.out 0).trans rfl, (blk_cell BK153.out 1).trans rfl⟩ (fun hHeld => ?_)
  clear hK K
  refine norm_ (a' := ?_) ?_ ?_
  rotate_left
  · show Act.put _ (some 16) _ = _
    simp only [Act.put, List.setIfInBounds_toArray, List.set_cons_zero, List.set_cons_succ, i64_w, i32_w]
    rfl
  refine pure_ (i := 12) (N := some 17) (v := ?_) (a' := ?_) #[true, true, true, true, true, true, true, true, true, true, true, true, true, false] rfl rfl (any_of HT_.out (by kernel_rfl)) (fun _ _ _ h => h) (Or.inl ⟨by rfl, ?_⟩) ?_ ?_
  rotate_left
  · intro w'
    go_simp
    with_reducible rfl
  rotate_left
  · simp only [Act.put, List.setIfInBounds_toArray, List.set_cons_zero, List.set_cons_succ, i64_w, i32_w]
    rfl
  refine pure_ (i := 13) (N := some 4) (v := ?_) (a' := ?_) #[true, true, true, true, true, true, true, true, true, true, true, true, true, true] rfl rfl (any_of HT_.out (by kernel_rfl)) (fun _ _ _ h => h) (Or.inl ⟨by rfl, ?_⟩) ?_ ?_
  rotate_left
  · intro w'
    go_simp
    with_reducible rfl
  rotate_left
  · simp only [Act.put, List.setIfInBounds_toArray, List.set_cons_zero, List.set_cons_succ, i64_w, i32_w]
    rfl
  refine done_ (done_of HT_.out (by kernel_rfl)) ?_
  try go_wp2
  go_ret
  exact ⟨by first | rfl | (simp [errW_none, errW_some] <;> rfl) | (simp [*, errW_none, errW_some] <;> rfl), by repeat (first | (with_reducible first | exact HB.out | apply below_alloc | apply pw_below_drewN | apply below_drew1 | refine below_set ?_ GE152.out | refine below_set ?_ GE153.out) | exact HB.out)⟩

end Go.Proofs.YtmhjnkeflbklpaaDoor.P

namespace Go.Proofs.YtmhjnkeflbklpaaDoor.P
open Go.RowKit Go.Proofs.YtmhjnkeflbklpaaDoorW.PrintWords Go.Proofs.YtmhjnkeflbklpaaDoorW.PrintLast Go.Proofs.YtmhjnkeflbklpaaDoorW.PrintMore
attribute [local go_sem] max2_int min2_int max_two min_two max_three min_three max_four min_four   -- for this text's walks alone
set_option linter.unusedVariables false
set_option linter.unusedSimpArgs false

/-! ### pannierkeep_Mod: function 11 -/
def pannierkeep_Mod.f (a0 : Int) (a1 : Int) : Option (Int) := if a1 < 1 then (some 0) else (if a1 = 0 then (none) else (some (Int.tmod (wrap64 ((Int.tmod a0 a1) + a1)) a1)))
set_option maxHeartbeats 8000000 in
set_option maxRecDepth 100000 in
theorem pannierkeep_Mod.calls (a0 : Int) (a1 : Int) (r : Int) (w : World) (h : pannierkeep_Mod.f a0 a1 = some r) :
    Calls Tryd.prog 11 #[.int .i64 a0, .int .i64 a1] w fun e w' => e = .returned (.int .i64 r) ∧ Drawn0 w w' := by
  have H : (if a1 < 1 then (some 0) else (if a1 = 0 then (none) else (some (Int.tmod (wrap64 ((Int.tmod a0 a1) + a1)) a1)))) = some r := h
  clear h
  by_cases c3 : a1 < 1
  · rw [if_pos c3] at H
    have c3b0 : decide (a1 < 1) = true := decide_eq_true c3
    clear c3
    obtain rfl := Option.some.inj H
    go_enter Tryd.func11, Tryd.ntmps11
    go_wp2
    go_ret
    exact ⟨by first | rfl | (simp; done) | (simp [*]; done), by repeat (first | exact Drawn0.refl _ | apply Drawn0.step)⟩
  · rw [if_neg c3] at H
    have c3b0 : decide (a1 < 1) = false := decide_eq_false c3
    clear c3
    by_cases c4 : a1 = 0
    · rw [if_pos c4] at H
      exact absurd H (by simp)
    · rw [if_neg c4] at H
      have c4b0 : (a1 == 0) = false := beq_eq_false_iff_ne.mpr c4
      have c4b1 : (a1 != 0) = true := bne_iff_ne.mpr c4
      obtain rfl := Option.some.inj H
      go_enter Tryd.func11, Tryd.ntmps11
      go_wp2
      go_ret
      exact ⟨by first | rfl | (simp; done) | (simp [*]; done), by repeat (first | exact Drawn0.refl _ | apply Drawn0.step)⟩

end Go.Proofs.YtmhjnkeflbklpaaDoor.P

/- Names of cells and cells of names; which cell goes first. -/
namespace Go.Proofs.YtmhjnkeflbklpaaDoor.P
open Go.RowKit Go.Proofs.YtmhjnkeflbklpaaDoorW.PrintWords Go.Proofs.YtmhjnkeflbklpaaDoorW.PrintLast Go.Proofs.YtmhjnkeflbklpaaDoorW.PrintMore
open M (fit I64 u64w dig itoaF)
set_option linter.unusedVariables false
set_option linter.unusedSimpArgs false

/-! ### A name leads to its cell -/
theorem ap_digits : ∀ (l : List UInt8) (u : Nat) (col : Int), (∀ c ∈ l, 48 ≤ c.toNat ∧ c.toNat ≤ 57) → ap l (u : Int) col = some (((M.val u l : Nat) : Int), col)
  | [], u, col, _ => rfl
  | c :: r, u, col, h => by
    have hc := h c (by simp)
    rw [ap, if_neg (by omega), if_pos hc, show (u : Int) * 10 + ((c.toNat : Int) - 48) = ((u * 10 + (c.toNat - 48) : Nat) : Int) by omega]
    exact ap_digits r _ col (fun x hx => h x (by simp [hx]))
theorem letter (n : Nat) (h : n < 256) : (UInt8.ofNat n).toNat = n := by rw [UInt8.toNat_ofNat']; omega
theorem itoa_pos {r : Int} (h : 0 ≤ r) : itoaF r = dig 20 r.toNat := by unfold itoaF; rw [if_neg (by omega)]
theorem ap_name (r c : Int) (h : cellB r c = true) : ap (nameS r c) 0 0 = some (r, c) := by
  have hc := (cellB_iff r c).1 h
  unfold nameS colName
  rw [if_pos h, itoa_pos (by omega)]
  have hd := ap_digits (dig 20 r.toNat) 0 c (M.dig_digits _ _)
  rw [M.val_dig 20 r.toNat (by omega)] at hd
  have e : ((r.toNat : Nat) : Int) = r := by omega
  rw [e] at hd
  by_cases h26 : c ≤ 26
  · have hl := letter (64 + c.toNat) (by omega)
    rw [if_pos h26]
    show ap (UInt8.ofNat (64 + c.toNat) :: dig 20 r.toNat) 0 0 = _
    rw [ap, hl, if_pos (by omega), show (0 : Int) * 26 + (((64 + c.toNat : Nat) : Int) - 65) + 1 = c by omega]
    exact hd
  · have hl := letter (38 + c.toNat) (by omega)
    rw [if_neg h26]
    show ap ((65 : UInt8) :: UInt8.ofNat (38 + c.toNat) :: dig 20 r.toNat) 0 0 = _
    rw [ap, if_pos (by decide), ap, hl, if_pos (by simp; omega), show ((0 : Int) * 26 + (((65 : UInt8).toNat : Int) - 65) + 1) * 26 + (((38 + c.toNat : Nat) : Int) - 65) + 1 = c by simp; omega]
    exact hd
theorem name_inj {r c r' c' : Int} (h : cellB r c = true) (h' : cellB r' c' = true) (e : nameS r c = nameS r' c') : r = r' ∧ c = c' := by
  have h1 := ap_name r c h
  rw [e, ap_name r' c' h'] at h1
  simp at h1; exact ⟨h1.1.symm, h1.2.symm⟩
theorem row_len {r : Int} (h0 : 1 ≤ r) (h1 : r ≤ 1000) : 1 ≤ (itoaF r).length ∧ (itoaF r).length ≤ 4 := by
  rw [itoa_pos (by omega)]
  have e : dig 20 r.toNat = dig 4 r.toNat := by rw [M.dig_eq 20 _ (by omega) (by omega), M.dig_eq 4 _ (by omega) (by omega)]
  rw [e]
  have := List.length_pos_iff.mpr (M.dig_ne 4 r.toNat (by omega))
  exact ⟨this, M.dig_length 4 _⟩
theorem col_len (c : Int) : 1 ≤ (colName c).length ∧ (colName c).length ≤ 2 := by unfold colName; split <;> simp
theorem name_len {r c : Int} (h : cellB r c = true) : (nameS r c).length ≤ 6 := by
  have hc := (cellB_iff r c).1 h
  unfold nameS; rw [if_pos h, List.length_append]
  have := row_len hc.1 hc.2.1
  have := col_len c
  omega
theorem parse_name (r c : Int) (h : cellB r c = true) : parseS (nameS r c) = (r, c, true) := by
  unfold parseS
  have := name_len h
  rw [if_neg (by omega), ap_name r c h]
  simp [h]
theorem parse_tells (l : List UInt8) : parseS l = (0, 0, false) ∨ ∃ r c : Int, cellB r c = true ∧ nameS r c = l ∧ parseS l = (r, c, true) := by
  unfold parseS
  split
  · exact .inl rfl
  · split
    · exact .inl rfl
    · rename_i r c _
      by_cases h : cellB r c = true ∧ nameS r c = l
      · rw [if_pos h]; exact .inr ⟨r, c, h.1, h.2, rfl⟩
      · rw [if_neg h]; exact .inl rfl
theorem parse_none {l : List UInt8} (h : ∀ r c : Int, cellB r c = true → nameS r c ≠ l) : parseS l = (0, 0, false) := by
  rcases parse_tells l with h1 | ⟨r, c, h1, h2, _⟩
  · exact h1
  · exact absurd h2 (h r c h1)

/-! ### Which one goes first -/
def beforeB (r c r' c' : Int) : Bool := decide (r < r') || (decide (r = r') && decide (c < c'))
theorem compare_eq (a b : Int) : cmp_Compare_int.f a b = some (if a < b then -1 else if a > b then 1 else 0) := by
  unfold cmp_Compare_int.f cmp_isNaN_int.f
  simp only [bne_self_eq_false, Option.bind_some, Bool.false_eq_true, if_false]
  split
  · rfl
  · split <;> rfl
theorem or_eq (k : Nat) (hk : 4 ≤ k) (a b : Int) : cmp_Or_int.f k [a, b] = some (if a = 0 then (if b = 0 then 0 else b) else a) := by
  obtain ⟨k, rfl⟩ : ∃ m, k = m + 3 := ⟨k - 3, by omega⟩
  have w1 : wrap64 (1 : Int) = 1 := by unfold wrap64; decide
  have w2 : wrap64 (2 : Int) = 2 := by unfold wrap64; decide
  unfold cmp_Or_int.f
  by_cases ha : a = 0 <;> by_cases hb : b = 0 <;> simp [cmp_Or_int.l0, rd, w1, w2, ha, hb]
theorem before_eq (k : Nat) (hk : 4 ≤ k) (r c r' c' : Int) : addr_Before.f k r c r' c' = some (beforeB r c r' c') := by
  unfold addr_Before.f beforeB
  rw [compare_eq, Option.bind_some, compare_eq, Option.bind_some, or_eq k hk, Option.bind_some]
  congr 1
  by_cases h1 : r < r'
  · simp [h1]
  · by_cases h2 : r' < r
    · have : r ≠ r' := by omega
      simp [h1, h2, this]
    · have : r = r' := by omega
      subst this
      by_cases h3 : c < c'
      · simp [h3]
      · by_cases h4 : c' < c
        · simp [h3, h4]
        · simp [h3, h4]
theorem keepmod_eq (a n : Int) (h0 : 1 ≤ n) (h1 : n ≤ 1000000) : pannierkeep_Mod.f a n = some (a % n) := by
  unfold pannierkeep_Mod.f
  have hn : Int.natAbs n = n.toNat := by omega
  have hr : -n < Int.tmod a n ∧ Int.tmod a n < n := ⟨Int.lt_tmod_of_pos a (by omega), Int.tmod_lt_of_pos a (by omega)⟩
  rw [if_neg (by omega), if_neg (by omega), M.wrap64_id (by unfold I64; omega), Int.tmod_eq_emod_of_nonneg (by omega)]
  congr 1
  rw [Int.add_emod_right]
  have h2 := Int.tdiv_mul_add_tmod a n
  have h3 : a % n = (Int.tdiv a n * n + Int.tmod a n) % n := by rw [h2]
  rw [h3, Int.add_comm, Int.add_mul_emod_self_right]
end Go.Proofs.YtmhjnkeflbklpaaDoor.P

/- '==' of two rectangles as one Bool. -/
namespace Go.Proofs.YtmhjnkeflbklpaaDoor.P
open Go.RowKit Go.Proofs.YtmhjnkeflbklpaaDoorW.PrintWords Go.Proofs.YtmhjnkeflbklpaaDoorW.PrintLast Go.Proofs.YtmhjnkeflbklpaaDoorW.PrintMore
set_option linter.unusedVariables false
set_option linter.unusedSimpArgs false

theorem eqRect (d : Nat) (w : World) (x0 y0 : Int) (x1 y1 : Int) (x2 y2 : Int) (x3 y3 : Int) :
    (Op.equalIn (d + 3) 27 (.agg #[.int .i64 x0, .int .i64 x1, .int .i64 x2, .int .i64 x3]) (.agg #[.int .i64 y0, .int .i64 y1, .int .i64 y2, .int .i64 y3])).run Tryd.prog w = .ok ((x0 == y0 && (x1 == y1)) && ((x2 == y2 && (x3 == y3)))) w := by
  refine eqA_of Tryd.underlying27 (by kernel_rfl) ?_
  refine eqf_cons (by rfl) (by go_simp) (by go_simp) (eqA25 (d + 0) w _ _ _ _) ?_
  exact eqf_last (by rfl) (by go_simp) (by go_simp) (eqA25 (d + 0) w _ _ _ _)
end Go.Proofs.YtmhjnkeflbklpaaDoor.P

/- AddrOrder: the walk. -/
namespace Go.Proofs.YtmhjnkeflbklpaaDoor.P
open Go.RowKit Go.Proofs.YtmhjnkeflbklpaaDoorW.PrintWords Go.Proofs.YtmhjnkeflbklpaaDoorW.PrintLast Go.Proofs.YtmhjnkeflbklpaaDoorW.PrintMore
open M (fit I64 u64w dig itoaF)
set_option linter.unusedVariables false
set_option linter.unusedSimpArgs false

theorem back_cell2 (a : Int) (ha : I64 a) : ∃ r c : Int, pannierkeep_Mod.f a 1000 = some (r - 1) ∧ pannierkeep_Mod.f (wrap64 (Int.tdiv a 1000)) 50 = some (c - 1) ∧ cellB r c = true := by
  have h1 := Int.emod_nonneg a (b := 1000) (by omega)
  have h2 := Int.emod_lt_of_pos a (b := 1000) (by omega)
  have h3 := Int.emod_nonneg (wrap64 (Int.tdiv a 1000)) (b := 50) (by omega)
  have h4 := Int.emod_lt_of_pos (wrap64 (Int.tdiv a 1000)) (b := 50) (by omega)
  refine ⟨1 + a % 1000, 1 + wrap64 (Int.tdiv a 1000) % 50, ?_, ?_, ?_⟩
  · rw [keepmod_eq a 1000 (by omega) (by omega)]; congr 1; omega
  · rw [keepmod_eq _ 50 (by omega) (by omega)]; congr 1; omega
  · rw [cellB_iff]; omega
def row3 (l : List Int) : Array Value := (l.map fun a => Value.int .i64 a).toArray
theorem drawn_block {w w1 : World} (h : Drawn0 w w1) {g : Nat} {o : Obj} (hb : w.heap[g]? = some o) : w1.heap[g]? = some o := by
  obtain ⟨n, rfl⟩ := h.out
  exact blk_drewN hb n
theorem ord_made {r0 c0 r1 c1 : Int} (g0 : 1 ≤ r0 ∧ r0 ≤ 1000 ∧ 1 ≤ c0 ∧ c0 ≤ 50) (g1 : 1 ≤ r1 ∧ r1 ≤ 1000 ∧ 1 ≤ c1 ∧ c1 ≤ 50) :
    ∃ x y z u : Int, addr_Made.f r0 c0 r1 c1 = some (x, y, z, u, true) ∧ addr_Made.f r1 c1 r0 c0 = some (x, y, z, u, true) ∧ addr_Fine.f x y z u = some true ∧ addr_Has.f x y z u r0 c0 = some true ∧ addr_Has.f x y z u r1 c1 = some true := by
  have h0 := (cellB_iff r0 c0).2 g0
  have h1 := (cellB_iff r1 c1).2 g1
  have hf : fineB (mn r0 r1) (mn c0 c1) (mx r0 r1) (mx c0 c1) = true := by
    rw [fineB_iff]; unfold mn mx; repeat' split
    all_goals omega
  refine ⟨mn r0 r1, mn c0 c1, mx r0 r1, mx c0 c1, ?_, ?_, ?_, ?_, ?_⟩
  · rw [made_eq]; unfold madeS; rw [if_pos ⟨h0, h1⟩]
  · rw [made_eq]; unfold madeS; rw [if_pos ⟨h1, h0⟩]
    have e1 : mn r1 r0 = mn r0 r1 := by unfold mn; repeat' split
                                        all_goals omega
    have e2 : mn c1 c0 = mn c0 c1 := by unfold mn; repeat' split
                                        all_goals omega
    have e3 : mx r1 r0 = mx r0 r1 := by unfold mx; repeat' split
                                        all_goals omega
    have e4 : mx c1 c0 = mx c0 c1 := by unfold mx; repeat' split
                                        all_goals omega
    rw [e1, e2, e3, e4]
  · rw [fine_eq, hf]
  · rw [has_eq]; congr 1; unfold hasB; rw [hf]; simp only [Bool.true_and, Bool.and_eq_true, decide_eq_true_eq]; unfold mn mx; repeat' split
    all_goals omega
  · rw [has_eq]; congr 1; unfold hasB; rw [hf]; simp only [Bool.true_and, Bool.and_eq_true, decide_eq_true_eq]; unfold mn mx; repeat' split
    all_goals omega
theorem ord_one {r c : Int} (g : 1 ≤ r ∧ r ≤ 1000 ∧ 1 ≤ c ∧ c ≤ 50) : addr_Made.f r c r c = some (r, c, r, c, true) := by
  have h0 := (cellB_iff r c).2 g
  have e1 : ∀ a : Int, mn a a = a := fun a => by unfold mn; split <;> rfl
  have e2 : ∀ a : Int, mx a a = a := fun a => by unfold mx; split <;> rfl
  rw [made_eq]; unfold madeS; rw [if_pos ⟨h0, h0⟩, e1, e1, e2, e2]
theorem ord_count {r c : Int} (g : 1 ≤ r ∧ r ≤ 1000 ∧ 1 ≤ c ∧ c ≤ 50) : addr_Count.f r c r c = some 1 := by
  have hf := (fineB_iff r c r c).2 (by omega)
  rw [count_eq]; unfold countS; rw [if_pos hf, Int.sub_self, Int.sub_self]; rfl
theorem ord_both {x y z u r c : Int} (hfi : addr_Fine.f x y z u = some true) (g : 1 ≤ r ∧ r ≤ 1000 ∧ 1 ≤ c ∧ c ≤ 50) :
    ∃ b : Bool, addr_Has.f x y z u r c = some b ∧ addr_Meet.f x y z u r c r c = some b := by
  have hf : fineB x y z u = true := by rw [fine_eq] at hfi; exact Option.some.inj hfi
  have hg := (fineB_iff r c r c).2 (by omega)
  refine ⟨_, has_eq x y z u r c, ?_⟩
  rw [meet_eq]; congr 1; unfold meetB hasB; rw [hf, hg, Bool.eq_iff_iff]
  simp only [Bool.true_and, Bool.and_eq_true, decide_eq_true_eq]; try omega
theorem before_trans (r0 c0 r1 c1 r2 c2 : Int) (h1 : beforeB r0 c0 r1 c1 = true) (h2 : beforeB r1 c1 r2 c2 = true) : beforeB r0 c0 r2 c2 = true := by
  unfold beforeB at h1 h2 ⊢
  simp only [Bool.or_eq_true, Bool.and_eq_true, decide_eq_true_eq] at h1 h2 ⊢; omega
theorem before_anti (r0 c0 r1 c1 : Int) (h1 : beforeB r0 c0 r1 c1 = true) : beforeB r1 c1 r0 c0 = false := by
  unfold beforeB at h1 ⊢
  simp only [Bool.or_eq_true, Bool.and_eq_true, decide_eq_true_eq] at h1
  rw [Bool.eq_false_iff, ne_eq]; simp only [Bool.or_eq_true, Bool.and_eq_true, decide_eq_true_eq]; omega

set_option maxHeartbeats 4000000 in
set_option maxRecDepth 100000 in
theorem AddrOrder.calls (k0 k1 k2 : Int) (w : World) (hG : G1 w) (i0 : I64 k0) (i1 : I64 k1) (i2 : I64 k2) :
    Calls Tryd.prog 4 #[.agg #[.int .i64 k0, .int .i64 k1, .int .i64 k2]] w fun e w' => e = .returned (.bool true) ∧ Below w.heap.size w w' := by
  have hu35 := Tryd.underlying35
  have hu36 := Tryd.underlying36
  have HG := Lib.hid hG
  clear hG
  obtain ⟨r0, c0, m0, n0, b0⟩ := back_cell2 k0 i0
  obtain ⟨r1, c1, m1, n1, b1⟩ := back_cell2 k1 i1
  obtain ⟨r2, c2, m2, n2, b2⟩ := back_cell2 k2 i2
  have HM0 := Lib.hid m0
  have HM1 := Lib.hid m1
  have HM2 := Lib.hid m2
  have HN0 := Lib.hid (show pannierkeep_Mod.f (IntKind.i64.wrap (Int.tdiv k0 1000)) 50 = some (c0 - 1) from (congrArg (fun z => pannierkeep_Mod.f z 50) (i64_w _)).trans n0)
  have HN1 := Lib.hid (show pannierkeep_Mod.f (IntKind.i64.wrap (Int.tdiv k1 1000)) 50 = some (c1 - 1) from (congrArg (fun z => pannierkeep_Mod.f z 50) (i64_w _)).trans n1)
  have HN2 := Lib.hid (show pannierkeep_Mod.f (IntKind.i64.wrap (Int.tdiv k2 1000)) 50 = some (c2 - 1) from (congrArg (fun z => pannierkeep_Mod.f z 50) (i64_w _)).trans n2)
  have g0 := (cellB_iff _ _).1 b0
  have g1 := (cellB_iff _ _).1 b1
  have g2 := (cellB_iff _ _).1 b2
  have B0 := Lib.hid b0
  have B1 := Lib.hid b1
  have B2 := Lib.hid b2
  clear m0 m1 m2 n0 n1 n2 b0 b1 b2
  go_enter Tryd.func4, Tryd.ntmps4
  go_wp2_with fail
  go_loopw [4] (fun i wr => ∃ k : Nat, k ≤ 3 ∧ i = .int .i64 k ∧ wr.heap[w.heap.size]? = some (.cells #[.int .i64 k0, .int .i64 k1, .int .i64 k2] 35 (0, 0)) ∧
      wr.heap[w.heap.size + 1]? = some (.cells (row3 ([r0, c0, r1, c1, r2, c2].take (2 * k) ++ List.replicate (6 - 2 * k) 0)) 36 (0, 0)) ∧ Below w.heap.size w wr)
    (fun i _ => 3 - (intOf i).toNat)
  case atStart =>
    refine ⟨0, by omega, rfl, ?_, ?_, ?_⟩
    · exact blk_alloc (blk_new _ _) _
    · have := blk_new (w.alloc (.cells #[.int .i64 k0, .int .i64 k1, .int .i64 k2] 35)) (.cells #[.int .i64 0, .int .i64 0, .int .i64 0, .int .i64 0, .int .i64 0, .int .i64 0] 36)
      rw [show row3 ([r0, c0, r1, c1, r2, c2].take (2 * 0) ++ List.replicate (6 - 2 * 0) 0) = #[.int .i64 0, .int .i64 0, .int .i64 0, .int .i64 0, .int .i64 0, .int .i64 0] from rfl]
      simpa using this
    · exact ((Below.refl _ w).alloc (Nat.le_refl _) _).alloc (by simp) _
  case round =>
    obtain ⟨k, hk, rfl, hb0, hb1, hbel⟩ := hrel
    have HBEL := Lib.hid hbel
    have hc : k = 0 ∨ k = 1 ∨ k = 2 ∨ k = 3 := by omega
    rcases hc with rfl | rfl | rfl | rfl
    · have c0_ : wr.cell? ⟨w.heap.size, 0, none⟩ = some (.int .i64 k0) := (blk_cell hb0 0).trans rfl
      have q0_ : wr.cell? ⟨w.heap.size + 1, 0, none⟩ = some (.int .i64 0) := (blk_cell hb1 0).trans rfl
      have q1_ : wr.cell? ⟨w.heap.size + 1, 1, none⟩ = some (.int .i64 0) := (blk_cell hb1 1).trans rfl
      have z0_ := blk_frozen hb1 0
      have z1_ := blk_frozen hb1 1
      have E0 := Lib.hid hb0
      have E1 := Lib.hid hb1
      clear hb0 hb1 hbel hk
      go_wp2_with fail
      have w0_ : IntKind.i64.wrap (1 + (r0 - 1)) = r0 := by rw [i64_w, M.wrap64_id (by unfold I64; omega)]; omega
      have w1_ : IntKind.i64.wrap (1 + (c0 - 1)) = c0 := by rw [i64_w, M.wrap64_id (by unfold I64; omega)]; omega
      go_region_held3 (fun w' => w'.cell? ⟨w.heap.size, 0, none⟩ = some (.int .i64 k0)) (go_keep) (first | (go_at_call 11; (with_reducible refine (pannierkeep_Mod.calls _ _ _ _ HM0.out).mono ?_); rintro e w' ⟨rfl, hd⟩; obtain ⟨nd, rfl⟩ := hd.out) | (go_at_call 11; (with_reducible refine (pannierkeep_Mod.calls _ _ _ _ HN0.out).mono ?_); rintro e w' ⟨rfl, hd⟩; obtain ⟨nd, rfl⟩ := hd.out))
      all_goals clear w0_ w1_
      all_goals go_wp2_with fail
      all_goals go_roundw
      case rel =>
        refine ⟨1, by omega, rfl, ?_, ?_, ?_⟩
        · exact blk_far (blk_far (blk_drewN E0.out _) (by simp) _) (by simp) _
        · exact blk_put (blk_put (blk_drewN E1.out _) 0 _ rfl) 1 _ (by rfl)
        · exact below_set (below_set (pw_below_drewN HBEL.out _) (by omega)) (by omega)
      case measure => simp [intOf]
    · have c0_ : wr.cell? ⟨w.heap.size, 1, none⟩ = some (.int .i64 k1) := (blk_cell hb0 1).trans rfl
      have q0_ : wr.cell? ⟨w.heap.size + 1, 2, none⟩ = some (.int .i64 0) := (blk_cell hb1 2).trans rfl
      have q1_ : wr.cell? ⟨w.heap.size + 1, 3, none⟩ = some (.int .i64 0) := (blk_cell hb1 3).trans rfl
      have z0_ := blk_frozen hb1 2
      have z1_ := blk_frozen hb1 3
      have E0 := Lib.hid hb0
      have E1 := Lib.hid hb1
      clear hb0 hb1 hbel hk
      go_wp2_with fail
      have w0_ : IntKind.i64.wrap (1 + (r1 - 1)) = r1 := by rw [i64_w, M.wrap64_id (by unfold I64; omega)]; omega
      have w1_ : IntKind.i64.wrap (1 + (c1 - 1)) = c1 := by rw [i64_w, M.wrap64_id (by unfold I64; omega)]; omega
      go_region_held3 (fun w' => w'.cell? ⟨w.heap.size, 1, none⟩ = some (.int .i64 k1)) (go_keep) (first | (go_at_call 11; (with_reducible refine (pannierkeep_Mod.calls _ _ _ _ HM1.out).mono ?_); rintro e w' ⟨rfl, hd⟩; obtain ⟨nd, rfl⟩ := hd.out) | (go_at_call 11; (with_reducible refine (pannierkeep_Mod.calls _ _ _ _ HN1.out).mono ?_); rintro e w' ⟨rfl, hd⟩; obtain ⟨nd, rfl⟩ := hd.out))
      all_goals clear w0_ w1_
      all_goals go_wp2_with fail
      all_goals go_roundw
      case rel =>
        refine ⟨2, by omega, rfl, ?_, ?_, ?_⟩
        · exact blk_far (blk_far (blk_drewN E0.out _) (by simp) _) (by simp) _
        · exact blk_put (blk_put (blk_drewN E1.out _) 2 _ rfl) 3 _ (by rfl)
        · exact below_set (below_set (pw_below_drewN HBEL.out _) (by omega)) (by omega)
      case measure => simp [intOf]
    · have c0_ : wr.cell? ⟨w.heap.size, 2, none⟩ = some (.int .i64 k2) := (blk_cell hb0 2).trans rfl
      have q0_ : wr.cell? ⟨w.heap.size + 1, 4, none⟩ = some (.int .i64 0) := (blk_cell hb1 4).trans rfl
      have q1_ : wr.cell? ⟨w.heap.size + 1, 5, none⟩ = some (.int .i64 0) := (blk_cell hb1 5).trans rfl
      have z0_ := blk_frozen hb1 4
      have z1_ := blk_frozen hb1 5
      have E0 := Lib.hid hb0
      have E1 := Lib.hid hb1
      clear hb0 hb1 hbel hk
      go_wp2_with fail
      have w0_ : IntKind.i64.wrap (1 + (r2 - 1)) = r2 := by rw [i64_w, M.wrap64_id (by unfold I64; omega)]; omega
      have w1_ : IntKind.i64.wrap (1 + (c2 - 1)) = c2 := by rw [i64_w, M.wrap64_id (by unfold I64; omega)]; omega
      go_region_held3 (fun w' => w'.cell? ⟨w.heap.size, 2, none⟩ = some (.int .i64 k2)) (go_keep) (first | (go_at_call 11; (with_reducible refine (pannierkeep_Mod.calls _ _ _ _ HM2.out).mono ?_); rintro e w' ⟨rfl, hd⟩; obtain ⟨nd, rfl⟩ := hd.out) | (go_at_call 11; (with_reducible refine (pannierkeep_Mod.calls _ _ _ _ HN2.out).mono ?_); rintro e w' ⟨rfl, hd⟩; obtain ⟨nd, rfl⟩ := hd.out))
      all_goals clear w0_ w1_
      all_goals go_wp2_with fail
      all_goals go_roundw
      case rel =>
        refine ⟨3, by omega, rfl, ?_, ?_, ?_⟩
        · exact blk_far (blk_far (blk_drewN E0.out _) (by simp) _) (by simp) _
        · exact blk_put (blk_put (blk_drewN E1.out _) 4 _ rfl) 5 _ (by rfl)
        · exact below_set (below_set (pw_below_drewN HBEL.out _) (by omega)) (by omega)
      case measure => simp [intOf]
    · have D0 : Hid (wr.heap[w.heap.size + 1]? = some (.cells #[.int .i64 r0, .int .i64 c0, .int .i64 r1, .int .i64 c1, .int .i64 r2, .int .i64 c2] 36 (0, 0))) := Lib.hid hb1
      have HE := HBEL
      clear hb0 hb1 hbel hk HBEL
      have e_0 : wr.cell? ⟨w.heap.size + 1, 0, none⟩ = some (.int .i64 r0) := (blk_cell D0.out 0).trans rfl
      have e_1 : wr.cell? ⟨w.heap.size + 1, 1, none⟩ = some (.int .i64 c0) := (blk_cell D0.out 1).trans rfl
      have e_2 : wr.cell? ⟨w.heap.size + 1, 2, none⟩ = some (.int .i64 r1) := (blk_cell D0.out 2).trans rfl
      have e_3 : wr.cell? ⟨w.heap.size + 1, 3, none⟩ = some (.int .i64 c1) := (blk_cell D0.out 3).trans rfl
      have e_4 : wr.cell? ⟨w.heap.size + 1, 4, none⟩ = some (.int .i64 r2) := (blk_cell D0.out 4).trans rfl
      have e_5 : wr.cell? ⟨w.heap.size + 1, 5, none⟩ = some (.int .i64 c2) := (blk_cell D0.out 5).trans rfl
      obtain ⟨x, y, z, u, hm, hm', hfi, hh0, hh1⟩ := ord_made g0 g1
      have hone : addr_Made.f r2 c2 r2 c2 = some (r2, c2, r2, c2, true) := ord_one g2
      have hcnt : addr_Count.f r2 c2 r2 c2 = some 1 := ord_count g2
      obtain ⟨bb, hhb, hmb⟩ := ord_both (x := x) (y := y) (z := z) (u := u) hfi g2
      have M1 := Lib.hid hm
      have M2 := Lib.hid hm'
      have M3 := Lib.hid hone
      have M4 := Lib.hid hcnt
      have M5 := Lib.hid hfi
      have M6 := Lib.hid hh0
      have M7 := Lib.hid hh1
      have M8 := Lib.hid hhb
      have M9 := Lib.hid hmb
      have M0 := Lib.hid wakes02
      have b00 := before_eq 4 (by omega) r0 c0 r0 c0
      have e00 : beforeB r0 c0 r0 c0 = false := by unfold beforeB; simp
      rw [e00] at b00
      have V00 := Lib.hid b00
      have t012 := before_trans r0 c0 r1 c1 r2 c2
      have t01 := before_anti r0 c0 r1 c1
      clear hm hm' hone hcnt hfi hh0 hh1 hhb hmb b00 e00
      have b01 := before_eq 4 (by omega) r0 c0 r1 c1
      have b12 := before_eq 4 (by omega) r1 c1 r2 c2
      have b02 := before_eq 4 (by omega) r0 c0 r2 c2
      have b10 := before_eq 4 (by omega) r1 c1 r0 c0
      have hc3 : beforeB r0 c0 r1 c1 = false ∨ (beforeB r0 c0 r1 c1 = true ∧ beforeB r1 c1 r0 c0 = false ∧ beforeB r1 c1 r2 c2 = false) ∨ (beforeB r0 c0 r1 c1 = true ∧ beforeB r1 c1 r0 c0 = false ∧ beforeB r1 c1 r2 c2 = true ∧ beforeB r0 c0 r2 c2 = true) := by
        cases h1 : beforeB r0 c0 r1 c1
        · exact .inl rfl
        · have h2 := t01 h1
          cases h3 : beforeB r1 c1 r2 c2
          · exact .inr (.inl ⟨rfl, h2, rfl⟩)
          · exact .inr (.inr ⟨rfl, h2, rfl, t012 h1 h3⟩)
      clear t012 t01 g0 g1 g2 i0 i1 i2
      rcases hc3 with h1 | ⟨h1, h2, h3⟩ | ⟨h1, h2, h3, h4⟩
      all_goals
        rw [h1] at b01
        try rw [h2] at b10
        try rw [h3] at b12
        try rw [h4] at b02
        have V01 := Lib.hid b01
        have V12 := Lib.hid b12
        have V02 := Lib.hid b02
        have V10 := Lib.hid b10
        clear b01 b12 b02 b10 h1
        try clear h2 h3
        try clear h4
        go_wp2_with (first | (go_at_call 12; (with_reducible refine (addr_Before.calls _ _ _ _ _ _ _ V01.out).mono ?_); rintro e w3 ⟨rfl, hb3⟩; have D0 := Lib.hid (blk_below D0.out hb3); have HE := Lib.hid (below_step HE.out hb3); have e_0 : w3.cell? ⟨w.heap.size + 1, 0, none⟩ = some (.int .i64 r0) := (blk_cell D0.out 0).trans rfl; have e_1 : w3.cell? ⟨w.heap.size + 1, 1, none⟩ = some (.int .i64 c0) := (blk_cell D0.out 1).trans rfl; have e_2 : w3.cell? ⟨w.heap.size + 1, 2, none⟩ = some (.int .i64 r1) := (blk_cell D0.out 2).trans rfl; have e_3 : w3.cell? ⟨w.heap.size + 1, 3, none⟩ = some (.int .i64 c1) := (blk_cell D0.out 3).trans rfl; have e_4 : w3.cell? ⟨w.heap.size + 1, 4, none⟩ = some (.int .i64 r2) := (blk_cell D0.out 4).trans rfl; have e_5 : w3.cell? ⟨w.heap.size + 1, 5, none⟩ = some (.int .i64 c2) := (blk_cell D0.out 5).trans rfl; clear hb3) | (go_at_call 12; (with_reducible refine (addr_Before.calls _ _ _ _ _ _ _ V12.out).mono ?_); rintro e w3 ⟨rfl, hb3⟩; have D0 := Lib.hid (blk_below D0.out hb3); have HE := Lib.hid (below_step HE.out hb3); have e_0 : w3.cell? ⟨w.heap.size + 1, 0, none⟩ = some (.int .i64 r0) := (blk_cell D0.out 0).trans rfl; have e_1 : w3.cell? ⟨w.heap.size + 1, 1, none⟩ = some (.int .i64 c0) := (blk_cell D0.out 1).trans rfl; have e_2 : w3.cell? ⟨w.heap.size + 1, 2, none⟩ = some (.int .i64 r1) := (blk_cell D0.out 2).trans rfl; have e_3 : w3.cell? ⟨w.heap.size + 1, 3, none⟩ = some (.int .i64 c1) := (blk_cell D0.out 3).trans rfl; have e_4 : w3.cell? ⟨w.heap.size + 1, 4, none⟩ = some (.int .i64 r2) := (blk_cell D0.out 4).trans rfl; have e_5 : w3.cell? ⟨w.heap.size + 1, 5, none⟩ = some (.int .i64 c2) := (blk_cell D0.out 5).trans rfl; clear hb3) | (go_at_call 12; (with_reducible refine (addr_Before.calls _ _ _ _ _ _ _ V02.out).mono ?_); rintro e w3 ⟨rfl, hb3⟩; have D0 := Lib.hid (blk_below D0.out hb3); have HE := Lib.hid (below_step HE.out hb3); have e_0 : w3.cell? ⟨w.heap.size + 1, 0, none⟩ = some (.int .i64 r0) := (blk_cell D0.out 0).trans rfl; have e_1 : w3.cell? ⟨w.heap.size + 1, 1, none⟩ = some (.int .i64 c0) := (blk_cell D0.out 1).trans rfl; have e_2 : w3.cell? ⟨w.heap.size + 1, 2, none⟩ = some (.int .i64 r1) := (blk_cell D0.out 2).trans rfl; have e_3 : w3.cell? ⟨w.heap.size + 1, 3, none⟩ = some (.int .i64 c1) := (blk_cell D0.out 3).trans rfl; have e_4 : w3.cell? ⟨w.heap.size + 1, 4, none⟩ = some (.int .i64 r2) := (blk_cell D0.out 4).trans rfl; have e_5 : w3.cell? ⟨w.heap.size + 1, 5, none⟩ = some (.int .i64 c2) := (blk_cell D0.out 5).trans rfl; clear hb3) | (go_at_call 12; (with_reducible refine (addr_Before.calls _ _ _ _ _ _ _ V00.out).mono ?_); rintro e w3 ⟨rfl, hb3⟩; have D0 := Lib.hid (blk_below D0.out hb3); have HE := Lib.hid (below_step HE.out hb3); have e_0 : w3.cell? ⟨w.heap.size + 1, 0, none⟩ = some (.int .i64 r0) := (blk_cell D0.out 0).trans rfl; have e_1 : w3.cell? ⟨w.heap.size + 1, 1, none⟩ = some (.int .i64 c0) := (blk_cell D0.out 1).trans rfl; have e_2 : w3.cell? ⟨w.heap.size + 1, 2, none⟩ = some (.int .i64 r1) := (blk_cell D0.out 2).trans rfl; have e_3 : w3.cell? ⟨w.heap.size + 1, 3, none⟩ = some (.int .i64 c1) := (blk_cell D0.out 3).trans rfl; have e_4 : w3.cell? ⟨w.heap.size + 1, 4, none⟩ = some (.int .i64 r2) := (blk_cell D0.out 4).trans rfl; have e_5 : w3.cell? ⟨w.heap.size + 1, 5, none⟩ = some (.int .i64 c2) := (blk_cell D0.out 5).trans rfl; clear hb3) | (go_at_call 12; (with_reducible refine (addr_Before.calls _ _ _ _ _ _ _ V10.out).mono ?_); rintro e w3 ⟨rfl, hb3⟩; have D0 := Lib.hid (blk_below D0.out hb3); have HE := Lib.hid (below_step HE.out hb3); have e_0 : w3.cell? ⟨w.heap.size + 1, 0, none⟩ = some (.int .i64 r0) := (blk_cell D0.out 0).trans rfl; have e_1 : w3.cell? ⟨w.heap.size + 1, 1, none⟩ = some (.int .i64 c0) := (blk_cell D0.out 1).trans rfl; have e_2 : w3.cell? ⟨w.heap.size + 1, 2, none⟩ = some (.int .i64 r1) := (blk_cell D0.out 2).trans rfl; have e_3 : w3.cell? ⟨w.heap.size + 1, 3, none⟩ = some (.int .i64 c1) := (blk_cell D0.out 3).trans rfl; have e_4 : w3.cell? ⟨w.heap.size + 1, 4, none⟩ = some (.int .i64 r2) := (blk_cell D0.out 4).trans rfl; have e_5 : w3.cell? ⟨w.heap.size + 1, 5, none⟩ = some (.int .i64 c2) := (blk_cell D0.out 5).trans rfl; clear hb3) | (go_at_call 6; (with_reducible refine (addr_Made.calls _ _ _ _ _ _ _ _ _ _ M1.out).mono ?_); rintro e wa ⟨rfl, hb3⟩; have D9 := D0; have D0 := Lib.hid (blk_alloc (blk_below D0.out hb3) (.cells #[.int .i64 x, .int .i64 y, .int .i64 z, .int .i64 u] 27)); have HE := Lib.hid (below_alloc (below_step HE.out hb3) (.cells #[.int .i64 x, .int .i64 y, .int .i64 z, .int .i64 u] 27)); have D1 := Lib.hid (blk_new wa (.cells #[.int .i64 x, .int .i64 y, .int .i64 z, .int .i64 u] 27)); have e_0 : wa.cell? ⟨w.heap.size + 1, 0, none⟩ = some (.int .i64 r0) := (blk_cell (blk_below D9.out hb3) 0).trans rfl; have e_1 : wa.cell? ⟨w.heap.size + 1, 1, none⟩ = some (.int .i64 c0) := (blk_cell (blk_below D9.out hb3) 1).trans rfl; have e_2 : wa.cell? ⟨w.heap.size + 1, 2, none⟩ = some (.int .i64 r1) := (blk_cell (blk_below D9.out hb3) 2).trans rfl; have e_3 : wa.cell? ⟨w.heap.size + 1, 3, none⟩ = some (.int .i64 c1) := (blk_cell (blk_below D9.out hb3) 3).trans rfl; have e_4 : wa.cell? ⟨w.heap.size + 1, 4, none⟩ = some (.int .i64 r2) := (blk_cell (blk_below D9.out hb3) 4).trans rfl; have e_5 : wa.cell? ⟨w.heap.size + 1, 5, none⟩ = some (.int .i64 c2) := (blk_cell (blk_below D9.out hb3) 5).trans rfl; have hsz : w.heap.size + 1 < wa.heap.size := Nat.lt_of_lt_of_le (blk_lt D9.out) hb3.size; clear hb3) | (go_at_call 6; (with_reducible refine (addr_Made.calls _ _ _ _ _ _ _ _ _ _ M2.out).mono ?_); rintro e wb ⟨rfl, hb3⟩; have D9 := D0; have D0 := Lib.hid (blk_alloc (blk_below D0.out hb3) (.cells #[.int .i64 x, .int .i64 y, .int .i64 z, .int .i64 u] 27)); have HE := Lib.hid (below_alloc (below_step HE.out hb3) (.cells #[.int .i64 x, .int .i64 y, .int .i64 z, .int .i64 u] 27)); have D1 := Lib.hid (blk_alloc (blk_below D1.out hb3) (.cells #[.int .i64 x, .int .i64 y, .int .i64 z, .int .i64 u] 27)); have D2 := Lib.hid (blk_new wb (.cells #[.int .i64 x, .int .i64 y, .int .i64 z, .int .i64 u] 27)); have e_0 : wb.cell? ⟨w.heap.size + 1, 0, none⟩ = some (.int .i64 r0) := (blk_cell (blk_below D9.out hb3) 0).trans rfl; have e_1 : wb.cell? ⟨w.heap.size + 1, 1, none⟩ = some (.int .i64 c0) := (blk_cell (blk_below D9.out hb3) 1).trans rfl; have e_2 : wb.cell? ⟨w.heap.size + 1, 2, none⟩ = some (.int .i64 r1) := (blk_cell (blk_below D9.out hb3) 2).trans rfl; have e_3 : wb.cell? ⟨w.heap.size + 1, 3, none⟩ = some (.int .i64 c1) := (blk_cell (blk_below D9.out hb3) 3).trans rfl; have e_4 : wb.cell? ⟨w.heap.size + 1, 4, none⟩ = some (.int .i64 r2) := (blk_cell (blk_below D9.out hb3) 4).trans rfl; have e_5 : wb.cell? ⟨w.heap.size + 1, 5, none⟩ = some (.int .i64 c2) := (blk_cell (blk_below D9.out hb3) 5).trans rfl; have hsz : w.heap.size + 1 < wb.heap.size := Nat.lt_of_lt_of_le (blk_lt D9.out) hb3.size; clear hb3) | (go_at_call 6; (with_reducible refine (addr_Made.calls _ _ _ _ _ _ _ _ _ _ M3.out).mono ?_); rintro e wc ⟨rfl, hb3⟩; have D9 := D0; have D0 := Lib.hid (blk_alloc (blk_below D0.out hb3) (.cells #[.int .i64 r2, .int .i64 c2, .int .i64 r2, .int .i64 c2] 27)); have HE := Lib.hid (below_alloc (below_step HE.out hb3) (.cells #[.int .i64 r2, .int .i64 c2, .int .i64 r2, .int .i64 c2] 27)); have D1 := Lib.hid (blk_alloc (blk_below D1.out hb3) (.cells #[.int .i64 r2, .int .i64 c2, .int .i64 r2, .int .i64 c2] 27)); have D2 := Lib.hid (blk_alloc (blk_below D2.out hb3) (.cells #[.int .i64 r2, .int .i64 c2, .int .i64 r2, .int .i64 c2] 27)); have D3 := Lib.hid (blk_new wc (.cells #[.int .i64 r2, .int .i64 c2, .int .i64 r2, .int .i64 c2] 27)); have e_0 : wc.cell? ⟨w.heap.size + 1, 0, none⟩ = some (.int .i64 r0) := (blk_cell (blk_below D9.out hb3) 0).trans rfl; have e_1 : wc.cell? ⟨w.heap.size + 1, 1, none⟩ = some (.int .i64 c0) := (blk_cell (blk_below D9.out hb3) 1).trans rfl; have e_2 : wc.cell? ⟨w.heap.size + 1, 2, none⟩ = some (.int .i64 r1) := (blk_cell (blk_below D9.out hb3) 2).trans rfl; have e_3 : wc.cell? ⟨w.heap.size + 1, 3, none⟩ = some (.int .i64 c1) := (blk_cell (blk_below D9.out hb3) 3).trans rfl; have e_4 : wc.cell? ⟨w.heap.size + 1, 4, none⟩ = some (.int .i64 r2) := (blk_cell (blk_below D9.out hb3) 4).trans rfl; have e_5 : wc.cell? ⟨w.heap.size + 1, 5, none⟩ = some (.int .i64 c2) := (blk_cell (blk_below D9.out hb3) 5).trans rfl; have hsz : w.heap.size + 1 < wc.heap.size := Nat.lt_of_lt_of_le (blk_lt D9.out) hb3.size; clear hb3))
        generalize wc.alloc (.cells #[.int .i64 r2, .int .i64 c2, .int .i64 r2, .int .i64 c2] 27) = wd at D0 D1 D2 D3 HE ⊢
        have hS : wd.drew.cell? ⟨w.heap.size + 1, 0, none⟩ = some (.int .i64 r0) ∧ wd.drew.cell? ⟨w.heap.size + 1, 1, none⟩ = some (.int .i64 c0) ∧ wd.drew.cell? ⟨w.heap.size + 1, 2, none⟩ = some (.int .i64 r1) ∧ wd.drew.cell? ⟨w.heap.size + 1, 3, none⟩ = some (.int .i64 c1) ∧ wd.drew.cell? ⟨w.heap.size + 1, 4, none⟩ = some (.int .i64 r2) ∧ wd.drew.cell? ⟨w.heap.size + 1, 5, none⟩ = some (.int .i64 c2) ∧ wd.drew.cell? ⟨wa.heap.size, 0, none⟩ = some (.int .i64 x) ∧ wd.drew.cell? ⟨wa.heap.size, 1, none⟩ = some (.int .i64 y) ∧ wd.drew.cell? ⟨wa.heap.size, 2, none⟩ = some (.int .i64 z) ∧ wd.drew.cell? ⟨wa.heap.size, 3, none⟩ = some (.int .i64 u) ∧ wd.drew.cell? ⟨wb.heap.size, 0, none⟩ = some (.int .i64 x) ∧ wd.drew.cell? ⟨wb.heap.size, 1, none⟩ = some (.int .i64 y) ∧ wd.drew.cell? ⟨wb.heap.size, 2, none⟩ = some (.int .i64 z) ∧ wd.drew.cell? ⟨wb.heap.size, 3, none⟩ = some (.int .i64 u) ∧ wd.drew.cell? ⟨wc.heap.size, 0, none⟩ = some (.int .i64 r2) ∧ wd.drew.cell? ⟨wc.heap.size, 1, none⟩ = some (.int .i64 c2) ∧ wd.drew.cell? ⟨wc.heap.size, 2, none⟩ = some (.int .i64 r2) ∧ wd.drew.cell? ⟨wc.heap.size, 3, none⟩ = some (.int .i64 c2) := ⟨(blk_cell (blk_drew D0.out) 0).trans rfl, (blk_cell (blk_drew D0.out) 1).trans rfl, (blk_cell (blk_drew D0.out) 2).trans rfl, (blk_cell (blk_drew D0.out) 3).trans rfl, (blk_cell (blk_drew D0.out) 4).trans rfl, (blk_cell (blk_drew D0.out) 5).trans rfl, (blk_cell (blk_drew D1.out) 0).trans rfl, (blk_cell (blk_drew D1.out) 1).trans rfl, (blk_cell (blk_drew D1.out) 2).trans rfl, (blk_cell (blk_drew D1.out) 3).trans rfl, (blk_cell (blk_drew D2.out) 0).trans rfl, (blk_cell (blk_drew D2.out) 1).trans rfl, (blk_cell (blk_drew D2.out) 2).trans rfl, (blk_cell (blk_drew D2.out) 3).trans rfl, (blk_cell (blk_drew D3.out) 0).trans rfl, (blk_cell (blk_drew D3.out) 1).trans rfl, (blk_cell (blk_drew D3.out) 2).trans rfl, (blk_cell (blk_drew D3.out) 3).trans rfl⟩
        go_region_held3 (fun w' => w'.cell? ⟨w.heap.size + 1, 0, none⟩ = some (.int .i64 r0) ∧ w'.cell? ⟨w.heap.size + 1, 1, none⟩ = some (.int .i64 c0) ∧ w'.cell? ⟨w.heap.size + 1, 2, none⟩ = some (.int .i64 r1) ∧ w'.cell? ⟨w.heap.size + 1, 3, none⟩ = some (.int .i64 c1) ∧ w'.cell? ⟨w.heap.size + 1, 4, none⟩ = some (.int .i64 r2) ∧ w'.cell? ⟨w.heap.size + 1, 5, none⟩ = some (.int .i64 c2) ∧ w'.cell? ⟨wa.heap.size, 0, none⟩ = some (.int .i64 x) ∧ w'.cell? ⟨wa.heap.size, 1, none⟩ = some (.int .i64 y) ∧ w'.cell? ⟨wa.heap.size, 2, none⟩ = some (.int .i64 z) ∧ w'.cell? ⟨wa.heap.size, 3, none⟩ = some (.int .i64 u) ∧ w'.cell? ⟨wb.heap.size, 0, none⟩ = some (.int .i64 x) ∧ w'.cell? ⟨wb.heap.size, 1, none⟩ = some (.int .i64 y) ∧ w'.cell? ⟨wb.heap.size, 2, none⟩ = some (.int .i64 z) ∧ w'.cell? ⟨wb.heap.size, 3, none⟩ = some (.int .i64 u) ∧ w'.cell? ⟨wc.heap.size, 0, none⟩ = some (.int .i64 r2) ∧ w'.cell? ⟨wc.heap.size, 1, none⟩ = some (.int .i64 c2) ∧ w'.cell? ⟨wc.heap.size, 2, none⟩ = some (.int .i64 r2) ∧ w'.cell? ⟨wc.heap.size, 3, none⟩ = some (.int .i64 c2)) (first | exact hS | go_keep) (first | (go_at_call 13; (with_reducible refine (addr_Fine.calls _ _ _ _ _ _ M5.out).mono ?_); rintro e w3 ⟨rfl, hb3⟩; have hS : w3.cell? ⟨w.heap.size + 1, 0, none⟩ = some (.int .i64 r0) ∧ w3.cell? ⟨w.heap.size + 1, 1, none⟩ = some (.int .i64 c0) ∧ w3.cell? ⟨w.heap.size + 1, 2, none⟩ = some (.int .i64 r1) ∧ w3.cell? ⟨w.heap.size + 1, 3, none⟩ = some (.int .i64 c1) ∧ w3.cell? ⟨w.heap.size + 1, 4, none⟩ = some (.int .i64 r2) ∧ w3.cell? ⟨w.heap.size + 1, 5, none⟩ = some (.int .i64 c2) ∧ w3.cell? ⟨wa.heap.size, 0, none⟩ = some (.int .i64 x) ∧ w3.cell? ⟨wa.heap.size, 1, none⟩ = some (.int .i64 y) ∧ w3.cell? ⟨wa.heap.size, 2, none⟩ = some (.int .i64 z) ∧ w3.cell? ⟨wa.heap.size, 3, none⟩ = some (.int .i64 u) ∧ w3.cell? ⟨wb.heap.size, 0, none⟩ = some (.int .i64 x) ∧ w3.cell? ⟨wb.heap.size, 1, none⟩ = some (.int .i64 y) ∧ w3.cell? ⟨wb.heap.size, 2, none⟩ = some (.int .i64 z) ∧ w3.cell? ⟨wb.heap.size, 3, none⟩ = some (.int .i64 u) ∧ w3.cell? ⟨wc.heap.size, 0, none⟩ = some (.int .i64 r2) ∧ w3.cell? ⟨wc.heap.size, 1, none⟩ = some (.int .i64 c2) ∧ w3.cell? ⟨wc.heap.size, 2, none⟩ = some (.int .i64 r2) ∧ w3.cell? ⟨wc.heap.size, 3, none⟩ = some (.int .i64 c2) := ⟨pw_cell_below hb3 hS.1, pw_cell_below hb3 hS.2.1, pw_cell_below hb3 hS.2.2.1, pw_cell_below hb3 hS.2.2.2.1, pw_cell_below hb3 hS.2.2.2.2.1, pw_cell_below hb3 hS.2.2.2.2.2.1, pw_cell_below hb3 hS.2.2.2.2.2.2.1, pw_cell_below hb3 hS.2.2.2.2.2.2.2.1, pw_cell_below hb3 hS.2.2.2.2.2.2.2.2.1, pw_cell_below hb3 hS.2.2.2.2.2.2.2.2.2.1, pw_cell_below hb3 hS.2.2.2.2.2.2.2.2.2.2.1, pw_cell_below hb3 hS.2.2.2.2.2.2.2.2.2.2.2.1, pw_cell_below hb3 hS.2.2.2.2.2.2.2.2.2.2.2.2.1, pw_cell_below hb3 hS.2.2.2.2.2.2.2.2.2.2.2.2.2.1, pw_cell_below hb3 hS.2.2.2.2.2.2.2.2.2.2.2.2.2.2.1, pw_cell_below hb3 hS.2.2.2.2.2.2.2.2.2.2.2.2.2.2.2.1, pw_cell_below hb3 hS.2.2.2.2.2.2.2.2.2.2.2.2.2.2.2.2.1, pw_cell_below hb3 hS.2.2.2.2.2.2.2.2.2.2.2.2.2.2.2.2.2⟩; have HE := Lib.hid (below_step (by first | exact HE.out | exact below_drew1 HE.out) hb3); clear hb3) | (go_at_call 7; (with_reducible refine (addr_Has.calls _ _ _ _ _ _ _ _ M6.out).mono ?_); rintro e w3 ⟨rfl, hb3⟩; have hS : w3.cell? ⟨w.heap.size + 1, 0, none⟩ = some (.int .i64 r0) ∧ w3.cell? ⟨w.heap.size + 1, 1, none⟩ = some (.int .i64 c0) ∧ w3.cell? ⟨w.heap.size + 1, 2, none⟩ = some (.int .i64 r1) ∧ w3.cell? ⟨w.heap.size + 1, 3, none⟩ = some (.int .i64 c1) ∧ w3.cell? ⟨w.heap.size + 1, 4, none⟩ = some (.int .i64 r2) ∧ w3.cell? ⟨w.heap.size + 1, 5, none⟩ = some (.int .i64 c2) ∧ w3.cell? ⟨wa.heap.size, 0, none⟩ = some (.int .i64 x) ∧ w3.cell? ⟨wa.heap.size, 1, none⟩ = some (.int .i64 y) ∧ w3.cell? ⟨wa.heap.size, 2, none⟩ = some (.int .i64 z) ∧ w3.cell? ⟨wa.heap.size, 3, none⟩ = some (.int .i64 u) ∧ w3.cell? ⟨wb.heap.size, 0, none⟩ = some (.int .i64 x) ∧ w3.cell? ⟨wb.heap.size, 1, none⟩ = some (.int .i64 y) ∧ w3.cell? ⟨wb.heap.size, 2, none⟩ = some (.int .i64 z) ∧ w3.cell? ⟨wb.heap.size, 3, none⟩ = some (.int .i64 u) ∧ w3.cell? ⟨wc.heap.size, 0, none⟩ = some (.int .i64 r2) ∧ w3.cell? ⟨wc.heap.size, 1, none⟩ = some (.int .i64 c2) ∧ w3.cell? ⟨wc.heap.size, 2, none⟩ = some (.int .i64 r2) ∧ w3.cell? ⟨wc.heap.size, 3, none⟩ = some (.int .i64 c2) := ⟨pw_cell_below hb3 hS.1, pw_cell_below hb3 hS.2.1, pw_cell_below hb3 hS.2.2.1, pw_cell_below hb3 hS.2.2.2.1, pw_cell_below hb3 hS.2.2.2.2.1, pw_cell_below hb3 hS.2.2.2.2.2.1, pw_cell_below hb3 hS.2.2.2.2.2.2.1, pw_cell_below hb3 hS.2.2.2.2.2.2.2.1, pw_cell_below hb3 hS.2.2.2.2.2.2.2.2.1, pw_cell_below hb3 hS.2.2.2.2.2.2.2.2.2.1, pw_cell_below hb3 hS.2.2.2.2.2.2.2.2.2.2.1, pw_cell_below hb3 hS.2.2.2.2.2.2.2.2.2.2.2.1, pw_cell_below hb3 hS.2.2.2.2.2.2.2.2.2.2.2.2.1, pw_cell_below hb3 hS.2.2.2.2.2.2.2.2.2.2.2.2.2.1, pw_cell_below hb3 hS.2.2.2.2.2.2.2.2.2.2.2.2.2.2.1, pw_cell_below hb3 hS.2.2.2.2.2.2.2.2.2.2.2.2.2.2.2.1, pw_cell_below hb3 hS.2.2.2.2.2.2.2.2.2.2.2.2.2.2.2.2.1, pw_cell_below hb3 hS.2.2.2.2.2.2.2.2.2.2.2.2.2.2.2.2.2⟩; have HE := Lib.hid (below_step (by first | exact HE.out | exact below_drew1 HE.out) hb3); clear hb3) | (go_at_call 7; (with_reducible refine (addr_Has.calls _ _ _ _ _ _ _ _ M7.out).mono ?_); rintro e w3 ⟨rfl, hb3⟩; have hS : w3.cell? ⟨w.heap.size + 1, 0, none⟩ = some (.int .i64 r0) ∧ w3.cell? ⟨w.heap.size + 1, 1, none⟩ = some (.int .i64 c0) ∧ w3.cell? ⟨w.heap.size + 1, 2, none⟩ = some (.int .i64 r1) ∧ w3.cell? ⟨w.heap.size + 1, 3, none⟩ = some (.int .i64 c1) ∧ w3.cell? ⟨w.heap.size + 1, 4, none⟩ = some (.int .i64 r2) ∧ w3.cell? ⟨w.heap.size + 1, 5, none⟩ = some (.int .i64 c2) ∧ w3.cell? ⟨wa.heap.size, 0, none⟩ = some (.int .i64 x) ∧ w3.cell? ⟨wa.heap.size, 1, none⟩ = some (.int .i64 y) ∧ w3.cell? ⟨wa.heap.size, 2, none⟩ = some (.int .i64 z) ∧ w3.cell? ⟨wa.heap.size, 3, none⟩ = some (.int .i64 u) ∧ w3.cell? ⟨wb.heap.size, 0, none⟩ = some (.int .i64 x) ∧ w3.cell? ⟨wb.heap.size, 1, none⟩ = some (.int .i64 y) ∧ w3.cell? ⟨wb.heap.size, 2, none⟩ = some (.int .i64 z) ∧ w3.cell? ⟨wb.heap.size, 3, none⟩ = some (.int .i64 u) ∧ w3.cell? ⟨wc.heap.size, 0, none⟩ = some (.int .i64 r2) ∧ w3.cell? ⟨wc.heap.size, 1, none⟩ = some (.int .i64 c2) ∧ w3.cell? ⟨wc.heap.size, 2, none⟩ = some (.int .i64 r2) ∧ w3.cell? ⟨wc.heap.size, 3, none⟩ = some (.int .i64 c2) := ⟨pw_cell_below hb3 hS.1, pw_cell_below hb3 hS.2.1, pw_cell_below hb3 hS.2.2.1, pw_cell_below hb3 hS.2.2.2.1, pw_cell_below hb3 hS.2.2.2.2.1, pw_cell_below hb3 hS.2.2.2.2.2.1, pw_cell_below hb3 hS.2.2.2.2.2.2.1, pw_cell_below hb3 hS.2.2.2.2.2.2.2.1, pw_cell_below hb3 hS.2.2.2.2.2.2.2.2.1, pw_cell_below hb3 hS.2.2.2.2.2.2.2.2.2.1, pw_cell_below hb3 hS.2.2.2.2.2.2.2.2.2.2.1, pw_cell_below hb3 hS.2.2.2.2.2.2.2.2.2.2.2.1, pw_cell_below hb3 hS.2.2.2.2.2.2.2.2.2.2.2.2.1, pw_cell_below hb3 hS.2.2.2.2.2.2.2.2.2.2.2.2.2.1, pw_cell_below hb3 hS.2.2.2.2.2.2.2.2.2.2.2.2.2.2.1, pw_cell_below hb3 hS.2.2.2.2.2.2.2.2.2.2.2.2.2.2.2.1, pw_cell_below hb3 hS.2.2.2.2.2.2.2.2.2.2.2.2.2.2.2.2.1, pw_cell_below hb3 hS.2.2.2.2.2.2.2.2.2.2.2.2.2.2.2.2.2⟩; have HE := Lib.hid (below_step (by first | exact HE.out | exact below_drew1 HE.out) hb3); clear hb3) | (go_at_call 7; (with_reducible refine (addr_Has.calls _ _ _ _ _ _ _ _ M8.out).mono ?_); rintro e w3 ⟨rfl, hb3⟩; have hS : w3.cell? ⟨w.heap.size + 1, 0, none⟩ = some (.int .i64 r0) ∧ w3.cell? ⟨w.heap.size + 1, 1, none⟩ = some (.int .i64 c0) ∧ w3.cell? ⟨w.heap.size + 1, 2, none⟩ = some (.int .i64 r1) ∧ w3.cell? ⟨w.heap.size + 1, 3, none⟩ = some (.int .i64 c1) ∧ w3.cell? ⟨w.heap.size + 1, 4, none⟩ = some (.int .i64 r2) ∧ w3.cell? ⟨w.heap.size + 1, 5, none⟩ = some (.int .i64 c2) ∧ w3.cell? ⟨wa.heap.size, 0, none⟩ = some (.int .i64 x) ∧ w3.cell? ⟨wa.heap.size, 1, none⟩ = some (.int .i64 y) ∧ w3.cell? ⟨wa.heap.size, 2, none⟩ = some (.int .i64 z) ∧ w3.cell? ⟨wa.heap.size, 3, none⟩ = some (.int .i64 u) ∧ w3.cell? ⟨wb.heap.size, 0, none⟩ = some (.int .i64 x) ∧ w3.cell? ⟨wb.heap.size, 1, none⟩ = some (.int .i64 y) ∧ w3.cell? ⟨wb.heap.size, 2, none⟩ = some (.int .i64 z) ∧ w3.cell? ⟨wb.heap.size, 3, none⟩ = some (.int .i64 u) ∧ w3.cell? ⟨wc.heap.size, 0, none⟩ = some (.int .i64 r2) ∧ w3.cell? ⟨wc.heap.size, 1, none⟩ = some (.int .i64 c2) ∧ w3.cell? ⟨wc.heap.size, 2, none⟩ = some (.int .i64 r2) ∧ w3.cell? ⟨wc.heap.size, 3, none⟩ = some (.int .i64 c2) := ⟨pw_cell_below hb3 hS.1, pw_cell_below hb3 hS.2.1, pw_cell_below hb3 hS.2.2.1, pw_cell_below hb3 hS.2.2.2.1, pw_cell_below hb3 hS.2.2.2.2.1, pw_cell_below hb3 hS.2.2.2.2.2.1, pw_cell_below hb3 hS.2.2.2.2.2.2.1, pw_cell_below hb3 hS.2.2.2.2.2.2.2.1, pw_cell_below hb3 hS.2.2.2.2.2.2.2.2.1, pw_cell_below hb3 hS.2.2.2.2.2.2.2.2.2.1, pw_cell_below hb3 hS.2.2.2.2.2.2.2.2.2.2.1, pw_cell_below hb3 hS.2.2.2.2.2.2.2.2.2.2.2.1, pw_cell_below hb3 hS.2.2.2.2.2.2.2.2.2.2.2.2.1, pw_cell_below hb3 hS.2.2.2.2.2.2.2.2.2.2.2.2.2.1, pw_cell_below hb3 hS.2.2.2.2.2.2.2.2.2.2.2.2.2.2.1, pw_cell_below hb3 hS.2.2.2.2.2.2.2.2.2.2.2.2.2.2.2.1, pw_cell_below hb3 hS.2.2.2.2.2.2.2.2.2.2.2.2.2.2.2.2.1, pw_cell_below hb3 hS.2.2.2.2.2.2.2.2.2.2.2.2.2.2.2.2.2⟩; have HE := Lib.hid (below_step (by first | exact HE.out | exact below_drew1 HE.out) hb3); clear hb3) | (go_at_call 8; (with_reducible refine (addr_Meet.calls _ _ _ _ _ _ _ _ _ _ M9.out).mono ?_); rintro e w3 ⟨rfl, hb3⟩; have hS : w3.cell? ⟨w.heap.size + 1, 0, none⟩ = some (.int .i64 r0) ∧ w3.cell? ⟨w.heap.size + 1, 1, none⟩ = some (.int .i64 c0) ∧ w3.cell? ⟨w.heap.size + 1, 2, none⟩ = some (.int .i64 r1) ∧ w3.cell? ⟨w.heap.size + 1, 3, none⟩ = some (.int .i64 c1) ∧ w3.cell? ⟨w.heap.size + 1, 4, none⟩ = some (.int .i64 r2) ∧ w3.cell? ⟨w.heap.size + 1, 5, none⟩ = some (.int .i64 c2) ∧ w3.cell? ⟨wa.heap.size, 0, none⟩ = some (.int .i64 x) ∧ w3.cell? ⟨wa.heap.size, 1, none⟩ = some (.int .i64 y) ∧ w3.cell? ⟨wa.heap.size, 2, none⟩ = some (.int .i64 z) ∧ w3.cell? ⟨wa.heap.size, 3, none⟩ = some (.int .i64 u) ∧ w3.cell? ⟨wb.heap.size, 0, none⟩ = some (.int .i64 x) ∧ w3.cell? ⟨wb.heap.size, 1, none⟩ = some (.int .i64 y) ∧ w3.cell? ⟨wb.heap.size, 2, none⟩ = some (.int .i64 z) ∧ w3.cell? ⟨wb.heap.size, 3, none⟩ = some (.int .i64 u) ∧ w3.cell? ⟨wc.heap.size, 0, none⟩ = some (.int .i64 r2) ∧ w3.cell? ⟨wc.heap.size, 1, none⟩ = some (.int .i64 c2) ∧ w3.cell? ⟨wc.heap.size, 2, none⟩ = some (.int .i64 r2) ∧ w3.cell? ⟨wc.heap.size, 3, none⟩ = some (.int .i64 c2) := ⟨pw_cell_below hb3 hS.1, pw_cell_below hb3 hS.2.1, pw_cell_below hb3 hS.2.2.1, pw_cell_below hb3 hS.2.2.2.1, pw_cell_below hb3 hS.2.2.2.2.1, pw_cell_below hb3 hS.2.2.2.2.2.1, pw_cell_below hb3 hS.2.2.2.2.2.2.1, pw_cell_below hb3 hS.2.2.2.2.2.2.2.1, pw_cell_below hb3 hS.2.2.2.2.2.2.2.2.1, pw_cell_below hb3 hS.2.2.2.2.2.2.2.2.2.1, pw_cell_below hb3 hS.2.2.2.2.2.2.2.2.2.2.1, pw_cell_below hb3 hS.2.2.2.2.2.2.2.2.2.2.2.1, pw_cell_below hb3 hS.2.2.2.2.2.2.2.2.2.2.2.2.1, pw_cell_below hb3 hS.2.2.2.2.2.2.2.2.2.2.2.2.2.1, pw_cell_below hb3 hS.2.2.2.2.2.2.2.2.2.2.2.2.2.2.1, pw_cell_below hb3 hS.2.2.2.2.2.2.2.2.2.2.2.2.2.2.2.1, pw_cell_below hb3 hS.2.2.2.2.2.2.2.2.2.2.2.2.2.2.2.2.1, pw_cell_below hb3 hS.2.2.2.2.2.2.2.2.2.2.2.2.2.2.2.2.2⟩; have HE := Lib.hid (below_step (by first | exact HE.out | exact below_drew1 HE.out) hb3); clear hb3) | (go_at_call 9; (with_reducible refine (addr_Count.calls _ _ _ _ _ _ M4.out).mono ?_); rintro e w3 ⟨rfl, hb3⟩; have hS : w3.cell? ⟨w.heap.size + 1, 0, none⟩ = some (.int .i64 r0) ∧ w3.cell? ⟨w.heap.size + 1, 1, none⟩ = some (.int .i64 c0) ∧ w3.cell? ⟨w.heap.size + 1, 2, none⟩ = some (.int .i64 r1) ∧ w3.cell? ⟨w.heap.size + 1, 3, none⟩ = some (.int .i64 c1) ∧ w3.cell? ⟨w.heap.size + 1, 4, none⟩ = some (.int .i64 r2) ∧ w3.cell? ⟨w.heap.size + 1, 5, none⟩ = some (.int .i64 c2) ∧ w3.cell? ⟨wa.heap.size, 0, none⟩ = some (.int .i64 x) ∧ w3.cell? ⟨wa.heap.size, 1, none⟩ = some (.int .i64 y) ∧ w3.cell? ⟨wa.heap.size, 2, none⟩ = some (.int .i64 z) ∧ w3.cell? ⟨wa.heap.size, 3, none⟩ = some (.int .i64 u) ∧ w3.cell? ⟨wb.heap.size, 0, none⟩ = some (.int .i64 x) ∧ w3.cell? ⟨wb.heap.size, 1, none⟩ = some (.int .i64 y) ∧ w3.cell? ⟨wb.heap.size, 2, none⟩ = some (.int .i64 z) ∧ w3.cell? ⟨wb.heap.size, 3, none⟩ = some (.int .i64 u) ∧ w3.cell? ⟨wc.heap.size, 0, none⟩ = some (.int .i64 r2) ∧ w3.cell? ⟨wc.heap.size, 1, none⟩ = some (.int .i64 c2) ∧ w3.cell? ⟨wc.heap.size, 2, none⟩ = some (.int .i64 r2) ∧ w3.cell? ⟨wc.heap.size, 3, none⟩ = some (.int .i64 c2) := ⟨pw_cell_below hb3 hS.1, pw_cell_below hb3 hS.2.1, pw_cell_below hb3 hS.2.2.1, pw_cell_below hb3 hS.2.2.2.1, pw_cell_below hb3 hS.2.2.2.2.1, pw_cell_below hb3 hS.2.2.2.2.2.1, pw_cell_below hb3 hS.2.2.2.2.2.2.1, pw_cell_below hb3 hS.2.2.2.2.2.2.2.1, pw_cell_below hb3 hS.2.2.2.2.2.2.2.2.1, pw_cell_below hb3 hS.2.2.2.2.2.2.2.2.2.1, pw_cell_below hb3 hS.2.2.2.2.2.2.2.2.2.2.1, pw_cell_below hb3 hS.2.2.2.2.2.2.2.2.2.2.2.1, pw_cell_below hb3 hS.2.2.2.2.2.2.2.2.2.2.2.2.1, pw_cell_below hb3 hS.2.2.2.2.2.2.2.2.2.2.2.2.2.1, pw_cell_below hb3 hS.2.2.2.2.2.2.2.2.2.2.2.2.2.2.1, pw_cell_below hb3 hS.2.2.2.2.2.2.2.2.2.2.2.2.2.2.2.1, pw_cell_below hb3 hS.2.2.2.2.2.2.2.2.2.2.2.2.2.2.2.2.1, pw_cell_below hb3 hS.2.2.2.2.2.2.2.2.2.2.2.2.2.2.2.2.2⟩; have HE := Lib.hid (below_step (by first | exact HE.out | exact below_drew1 HE.out) hb3); clear hb3) | (go_at_call 10; (with_reducible refine (pannierlaw02_wakes.calls _ _ (gl_1_1 (by first | exact HE.out | exact below_drew1 HE.out) HG.out) M0.out).mono ?_); rintro e w3 ⟨rfl, hb3⟩; have hS : w3.cell? ⟨w.heap.size + 1, 0, none⟩ = some (.int .i64 r0) ∧ w3.cell? ⟨w.heap.size + 1, 1, none⟩ = some (.int .i64 c0) ∧ w3.cell? ⟨w.heap.size + 1, 2, none⟩ = some (.int .i64 r1) ∧ w3.cell? ⟨w.heap.size + 1, 3, none⟩ = some (.int .i64 c1) ∧ w3.cell? ⟨w.heap.size + 1, 4, none⟩ = some (.int .i64 r2) ∧ w3.cell? ⟨w.heap.size + 1, 5, none⟩ = some (.int .i64 c2) ∧ w3.cell? ⟨wa.heap.size, 0, none⟩ = some (.int .i64 x) ∧ w3.cell? ⟨wa.heap.size, 1, none⟩ = some (.int .i64 y) ∧ w3.cell? ⟨wa.heap.size, 2, none⟩ = some (.int .i64 z) ∧ w3.cell? ⟨wa.heap.size, 3, none⟩ = some (.int .i64 u) ∧ w3.cell? ⟨wb.heap.size, 0, none⟩ = some (.int .i64 x) ∧ w3.cell? ⟨wb.heap.size, 1, none⟩ = some (.int .i64 y) ∧ w3.cell? ⟨wb.heap.size, 2, none⟩ = some (.int .i64 z) ∧ w3.cell? ⟨wb.heap.size, 3, none⟩ = some (.int .i64 u) ∧ w3.cell? ⟨wc.heap.size, 0, none⟩ = some (.int .i64 r2) ∧ w3.cell? ⟨wc.heap.size, 1, none⟩ = some (.int .i64 c2) ∧ w3.cell? ⟨wc.heap.size, 2, none⟩ = some (.int .i64 r2) ∧ w3.cell? ⟨wc.heap.size, 3, none⟩ = some (.int .i64 c2) := ⟨pw_cell_below hb3 hS.1, pw_cell_below hb3 hS.2.1, pw_cell_below hb3 hS.2.2.1, pw_cell_below hb3 hS.2.2.2.1, pw_cell_below hb3 hS.2.2.2.2.1, pw_cell_below hb3 hS.2.2.2.2.2.1, pw_cell_below hb3 hS.2.2.2.2.2.2.1, pw_cell_below hb3 hS.2.2.2.2.2.2.2.1, pw_cell_below hb3 hS.2.2.2.2.2.2.2.2.1, pw_cell_below hb3 hS.2.2.2.2.2.2.2.2.2.1, pw_cell_below hb3 hS.2.2.2.2.2.2.2.2.2.2.1, pw_cell_below hb3 hS.2.2.2.2.2.2.2.2.2.2.2.1, pw_cell_below hb3 hS.2.2.2.2.2.2.2.2.2.2.2.2.1, pw_cell_below hb3 hS.2.2.2.2.2.2.2.2.2.2.2.2.2.1, pw_cell_below hb3 hS.2.2.2.2.2.2.2.2.2.2.2.2.2.2.1, pw_cell_below hb3 hS.2.2.2.2.2.2.2.2.2.2.2.2.2.2.2.1, pw_cell_below hb3 hS.2.2.2.2.2.2.2.2.2.2.2.2.2.2.2.2.1, pw_cell_below hb3 hS.2.2.2.2.2.2.2.2.2.2.2.2.2.2.2.2.2⟩; have HE := Lib.hid (below_step (by first | exact HE.out | exact below_drew1 HE.out) hb3); clear hb3))
        all_goals go_wp2_with fail
        all_goals go_ret
        all_goals exact ⟨by first | rfl | (simp; done), HE.out⟩
def pannierlaw02_AddrOrder.f (k : Nat) (l : List Int) : Option Bool := if l.length = 3 ∧ ∀ a ∈ l, I64 a then some true else none
theorem pannierlaw02_AddrOrder.calls (k : Nat) (l : List Int) (r : Bool) (w : World) (hG : G1 w) (h : pannierlaw02_AddrOrder.f k l = some r) :
    Calls Tryd.prog 4 #[.agg (l.map fun a => Value.int .i64 a).toArray] w fun e w' => e = .returned (.bool r) ∧ Below w.heap.size w w' := by
  unfold pannierlaw02_AddrOrder.f at h
  split at h
  · rename_i hc
    obtain ⟨hl, h'⟩ := hc
    obtain rfl := Option.some.inj h
    match l, hl with
    | [a0, a1, a2], _ => exact AddrOrder.calls a0 a1 a2 w hG (h' _ (by simp)) (h' _ (by simp)) (h' _ (by simp))
  · cases h
theorem AddrOrder_pure (l : List Int) (hl : l.length = 3) (hw : ∀ a ∈ l, (Lit.int .i64 a).wf = true) : ∃ k, pannierlaw02_AddrOrder.f k l = some true :=
  ⟨0, if_pos ⟨hl, fun a ha => M.i64wf (hw a ha)⟩⟩
end Go.Proofs.YtmhjnkeflbklpaaDoor.P
