/- Contracts of the functions that the law reaches, each with the plain function that it comes to, and plain facts about these. -/
import Derived.WalkSmall
import Derived.Test.YtmhjnkeflbklpaaDoorBAM1
namespace Go.Proofs.YtmhjnkeflbklpaaDoor.P
open Go.RowKit Go.Proofs.YtmhjnkeflbklpaaDoorW.PrintWords Go.Proofs.YtmhjnkeflbklpaaDoorW.PrintLast Go.Proofs.YtmhjnkeflbklpaaDoorW.PrintMore
attribute [local go_sem] max2_int min2_int max_two min_two max_three min_three max_four min_four   -- for this text's walks alone
set_option linter.unusedVariables false
set_option linter.unusedSimpArgs false

attribute [local go_sem high] eqA25
/-! ### pannierlaw02_wakes: function 10 -/
def pannierlaw02_wakes.f  : Option (Bool) := (addr_Parse.f (⟨#[65, 65, 51]⟩ : ByteArray)).bind fun bt131 => ((addr_Parse.f (⟨#[65, 89, 49]⟩ : ByteArray)).bind fun bt135 => ((addr_Made.f 3 5 7 2).bind fun bt139 => (if bt131.2.2 = true then (if bt135.2.2 = true then (none) else (if bt139.2.2.2.2 = true then (if (bt131.1 == 3 && (bt131.2.1 == 27)) = true then ((addr_Name.f bt131.1 bt131.2.1).bind fun t145 => (if t145.toList = ([65, 65, 51] : List UInt8) then ((addr_Count.f bt139.1 bt139.2.1 bt139.2.2.1 bt139.2.2.2.1).bind fun t146 => (if t146 = 20 then ((addr_Has.f bt139.1 bt139.2.1 bt139.2.2.1 bt139.2.2.2.1 4 4).bind fun t147 => (if t147 = true then ((addr_Good.f bt131.1 bt131.2.1).bind fun t148 => (some t148)) else (none))) else (none))) else (none))) else (none)) else (none))) else (none))))
set_option maxHeartbeats 8000000 in
set_option maxRecDepth 100000 in
theorem pannierlaw02_wakes.calls  (r : Bool) (w : World) (hG : G1 w) (h : pannierlaw02_wakes.f  = some r) :
    Calls Tryd.prog 10 #[] w fun e w' => e = .returned (.bool r) ∧ Below w.heap.size w w' := by
  have hu25 := Tryd.underlying25
  have hu27 := Tryd.underlying27
  have HB := Aside0.mk (Below.refl w.heap.size w)
  have H : ((addr_Parse.f (⟨#[65, 65, 51]⟩ : ByteArray)).bind fun bt131 => ((addr_Parse.f (⟨#[65, 89, 49]⟩ : ByteArray)).bind fun bt135 => ((addr_Made.f 3 5 7 2).bind fun bt139 => (if bt131.2.2 = true then (if bt135.2.2 = true then (none) else (if bt139.2.2.2.2 = true then (if (bt131.1 == 3 && (bt131.2.1 == 27)) = true then ((addr_Name.f bt131.1 bt131.2.1).bind fun t145 => (if t145.toList = ([65, 65, 51] : List UInt8) then ((addr_Count.f bt139.1 bt139.2.1 bt139.2.2.1 bt139.2.2.2.1).bind fun t146 => (if t146 = 20 then ((addr_Has.f bt139.1 bt139.2.1 bt139.2.2.1 bt139.2.2.2.1 4 4).bind fun t147 => (if t147 = true then ((addr_Good.f bt131.1 bt131.2.1).bind fun t148 => (some t148)) else (none))) else (none))) else (none))) else (none)) else (none))) else (none))))) = some r := h
  clear h
  replace H := Option.bind_eq_some_iff.mp H
  obtain ⟨⟨t131, t132, t133⟩, A10, H⟩ := H
  replace H : ((addr_Parse.f (⟨#[65, 89, 49]⟩ : ByteArray)).bind fun bt135 => ((addr_Made.f 3 5 7 2).bind fun bt139 => (if t133 = true then (if bt135.2.2 = true then (none) else (if bt139.2.2.2.2 = true then (if (t131 == 3 && (t132 == 27)) = true then ((addr_Name.f t131 t132).bind fun t145 => (if t145.toList = ([65, 65, 51] : List UInt8) then ((addr_Count.f bt139.1 bt139.2.1 bt139.2.2.1 bt139.2.2.2.1).bind fun t146 => (if t146 = 20 then ((addr_Has.f bt139.1 bt139.2.1 bt139.2.2.1 bt139.2.2.2.1 4 4).bind fun t147 => (if t147 = true then ((addr_Good.f t131 t132).bind fun t148 => (some t148)) else (none))) else (none))) else (none))) else (none)) else (none))) else (none)))) = some r := H
  have A1 := Aside0.mk A10
  clear A10
  replace H := Option.bind_eq_some_iff.mp H
  obtain ⟨⟨t135, t136, t137⟩, A20, H⟩ := H
  replace H : ((addr_Made.f 3 5 7 2).bind fun bt139 => (if t133 = true then (if t137 = true then (none) else (if bt139.2.2.2.2 = true then (if (t131 == 3 && (t132 == 27)) = true then ((addr_Name.f t131 t132).bind fun t145 => (if t145.toList = ([65, 65, 51] : List UInt8) then ((addr_Count.f bt139.1 bt139.2.1 bt139.2.2.1 bt139.2.2.2.1).bind fun t146 => (if t146 = 20 then ((addr_Has.f bt139.1 bt139.2.1 bt139.2.2.1 bt139.2.2.2.1 4 4).bind fun t147 => (if t147 = true then ((addr_Good.f t131 t132).bind fun t148 => (some t148)) else (none))) else (none))) else (none))) else (none)) else (none))) else (none))) = some r := H
  have A2 := Aside0.mk A20
  clear A20
  replace H := Option.bind_eq_some_iff.mp H
  obtain ⟨⟨t139, t140, t141, t142, t143⟩, A30, H⟩ := H
  replace H : (if t133 = true then (if t137 = true then (none) else (if t143 = true then (if (t131 == 3 && (t132 == 27)) = true then ((addr_Name.f t131 t132).bind fun t145 => (if t145.toList = ([65, 65, 51] : List UInt8) then ((addr_Count.f t139 t140 t141 t142).bind fun t146 => (if t146 = 20 then ((addr_Has.f t139 t140 t141 t142 4 4).bind fun t147 => (if t147 = true then ((addr_Good.f t131 t132).bind fun t148 => (some t148)) else (none))) else (none))) else (none))) else (none)) else (none))) else (none)) = some r := H
  have A3 := Aside0.mk A30
  clear A30
  by_cases c4 : t133 = true
  · subst c4
    have H1 : (if t137 = true then (none) else (if t143 = true then (if (t131 == 3 && (t132 == 27)) = true then ((addr_Name.f t131 t132).bind fun t145 => (if t145.toList = ([65, 65, 51] : List UInt8) then ((addr_Count.f t139 t140 t141 t142).bind fun t146 => (if t146 = 20 then ((addr_Has.f t139 t140 t141 t142 4 4).bind fun t147 => (if t147 = true then ((addr_Good.f t131 t132).bind fun t148 => (some t148)) else (none))) else (none))) else (none))) else (none)) else (none))) = some r := by rw [if_pos rfl] at H; exact H
    clear H
    have H := H1
    clear H1
    by_cases c5 : t137 = true
    · subst c5
      have H1 : (none) = some r := by rw [if_pos rfl] at H; exact H
      clear H
      have H := H1
      clear H1
      exact absurd H (by simp)
    · replace c5 := Bool.eq_false_iff.mpr c5
      subst c5
      have H1 : (if t143 = true then (if (t131 == 3 && (t132 == 27)) = true then ((addr_Name.f t131 t132).bind fun t145 => (if t145.toList = ([65, 65, 51] : List UInt8) then ((addr_Count.f t139 t140 t141 t142).bind fun t146 => (if t146 = 20 then ((addr_Has.f t139 t140 t141 t142 4 4).bind fun t147 => (if t147 = true then ((addr_Good.f t131 t132).bind fun t148 => (some t148)) else (none))) else (none))) else (none))) else (none)) else (none)) = some r := by rw [if_neg (show ¬ (false = true) by decide)] at H; exact H
      clear H
      have H := H1
      clear H1
      by_cases c6 : t143 = true
      · subst c6
        have H1 : (if (t131 == 3 && (t132 == 27)) = true then ((addr_Name.f t131 t132).bind fun t145 => (if t145.toList = ([65, 65, 51] : List UInt8) then ((addr_Count.f t139 t140 t141 t142).bind fun t146 => (if t146 = 20 then ((addr_Has.f t139 t140 t141 t142 4 4).bind fun t147 => (if t147 = true then ((addr_Good.f t131 t132).bind fun t148 => (some t148)) else (none))) else (none))) else (none))) else (none)) = some r := by rw [if_pos rfl] at H; exact H
        clear H
        have H := H1
        clear H1
        by_cases c7 : (t131 == 3 && (t132 == 27)) = true
        · rw [if_pos c7] at H
          have c7b0 : (t131 == 3 && (t132 == 27)) = true := c7
          (try (have c7b1 : decide (t131 = 3 && (t132 == 27)) = true := by simpa using c7))
          (try (have c7b2 : (t131 == 3 && (t132 == 27)) = true := by simpa using c7))
          clear c7
          replace H := Option.bind_eq_some_iff.mp H
          obtain ⟨t145, A80, H⟩ := H
          replace H : (if t145.toList = ([65, 65, 51] : List UInt8) then ((addr_Count.f t139 t140 t141 t142).bind fun t146 => (if t146 = 20 then ((addr_Has.f t139 t140 t141 t142 4 4).bind fun t147 => (if t147 = true then ((addr_Good.f t131 t132).bind fun t148 => (some t148)) else (none))) else (none))) else (none)) = some r := H
          have A8 := Aside0.mk A80
          clear A80
          by_cases c9 : t145.toList = ([65, 65, 51] : List UInt8)
          · rw [if_pos c9] at H
            have c9b0 : (t145.toList == ([65, 65, 51] : List UInt8)) = true := beq_iff_eq.mpr c9
            have c9b1 : (t145.toList != ([65, 65, 51] : List UInt8)) = false := bne_eq_false_iff_eq.mpr c9
            clear c9
            replace H := Option.bind_eq_some_iff.mp H
            obtain ⟨t146, A100, H⟩ := H
            replace H : (if t146 = 20 then ((addr_Has.f t139 t140 t141 t142 4 4).bind fun t147 => (if t147 = true then ((addr_Good.f t131 t132).bind fun t148 => (some t148)) else (none))) else (none)) = some r := H
            have A10 := Aside0.mk A100
            clear A100
            by_cases c11 : t146 = 20
            · rw [if_pos c11] at H
              have c11b0 : (t146 == 20) = true := beq_iff_eq.mpr c11
              have c11b1 : (t146 != 20) = false := bne_eq_false_iff_eq.mpr c11
              clear c11
              replace H := Option.bind_eq_some_iff.mp H
              obtain ⟨t147, A120, H⟩ := H
              replace H : (if t147 = true then ((addr_Good.f t131 t132).bind fun t148 => (some t148)) else (none)) = some r := H
              have A12 := Aside0.mk A120
              clear A120
              by_cases c13 : t147 = true
              · subst c13
                have H1 : ((addr_Good.f t131 t132).bind fun t148 => (some t148)) = some r := by rw [if_pos rfl] at H; exact H
                clear H
                have H := H1
                clear H1
                replace H := Option.bind_eq_some_iff.mp H
                obtain ⟨t148, A140, H⟩ := H
                replace H : (some t148) = some r := H
                have A14 := Aside0.mk A140
                clear A140
                obtain rfl := Option.some.inj H
                go_enter Tryd.func10, Tryd.ntmps10
                go_wp2_with (first | ((with_reducible refine gate_callee (f := 26) rfl ?_); refine goesL_ (some 8) rfl rfl Tryd.func26 (by kernel_rfl) rfl #[.string (⟨#[65, 65, 51]⟩ : ByteArray)] rfl (by (try simp only [List.map_toArray, List.map_cons, List.map_nil]); first | done | rfl | (simp only [List.length_drop, List.length_take]; rfl)) ?_; (with_reducible refine (addr_Parse.calls (⟨#[65, 65, 51]⟩ : ByteArray) t131 t132 true _ ?side1 A1.out).mono ?_); (case side1 => exact gl_1_1 (by repeat (first | (with_reducible first | exact HB.out | apply below_alloc | apply pw_below_drewN | apply below_drew1) | exact HB.out)) hG); rintro e w15 ⟨rfl, hb⟩; refine ⟨_, rfl, ?_⟩; have n0_ := Aside0.mk (below_step (by repeat (first | (with_reducible first | exact HB.out | apply below_alloc | apply pw_below_drewN | apply below_drew1) | exact HB.out)) hb); clear HB; have HB := n0_; clear n0_; (try clear hb); (try clear hb2); (try clear hk); (try clear hi)) | ((with_reducible refine gate_dst (N := 1) rfl ?_); refine box_event ?hg (N := 1) ?hd (cs := #[.int .i64 0, .int .i64 0]) (t := 25) ?hr ?_; (case hd => rfl); (case hg => rfl); (case hr => first | (go_simp; done) | (go_simp; rfl)); intro gb134 hg w16 hbox hb; have n0_ := Aside0.mk (below_step (by repeat (first | (with_reducible first | exact HB.out | apply below_alloc | apply pw_below_drewN | apply below_drew1) | exact HB.out)) hb); have n1_ := Aside0.mk (hbox); have n2_ := Aside0.mk ((by rw [hg]; exact (below_size (by repeat (first | (with_reducible first | exact HB.out | apply below_alloc | apply pw_below_drewN | apply below_drew1) | exact HB.out))) : w.heap.size ≤ gb134)); have n3_ := Aside0.mk ((by rw [hg]; exact (below_size (by repeat (first | (with_reducible first | exact HB.out | apply below_alloc | apply pw_below_drewN | apply below_drew1) | exact HB.out))) : w.heap.size ≤ gb134)); clear HB; have HB := n0_; have BK134 := n1_; have GW134 := n2_; have GE134 := n3_; clear n0_ n1_ n2_ n3_; clear hb hbox hg; have hcz17_0 : w16.cell? ⟨gb134, 0, none⟩ = some (.int .i64 0) := (blk_cell BK134.out 0).trans rfl; have hcz17_1 : w16.cell? ⟨gb134, 1, none⟩ = some (.int .i64 0) := (blk_cell BK134.out 1).trans rfl; have hfz17_0 := blk_frozen BK134.out 0; have hfz17_1 := blk_frozen BK134.out 1) | ((with_reducible refine gate_callee (f := 26) rfl ?_); refine goesL_ (some 12) rfl rfl Tryd.func26 (by kernel_rfl) rfl #[.string (⟨#[65, 89, 49]⟩ : ByteArray)] rfl (by (try simp only [List.map_toArray, List.map_cons, List.map_nil]); first | done | rfl | (simp only [List.length_drop, List.length_take]; rfl)) ?_; (with_reducible refine (addr_Parse.calls (⟨#[65, 89, 49]⟩ : ByteArray) t135 t136 false _ ?side1 A2.out).mono ?_); (case side1 => exact gl_1_1 (by repeat (first | (with_reducible first | exact HB.out | apply below_alloc | apply pw_below_drewN | apply below_drew1 | refine below_set ?_ GE134.out) | exact HB.out)) hG); rintro e w18 ⟨rfl, hb⟩; refine ⟨_, rfl, ?_⟩; have n0_ := Aside0.mk (blk_below (g := gb134) (o := .cells #[.int .i64 t131, .int .i64 t132] 25 (0, 0)) (by (with_reducible repeat (first | refine blk_drewN ?_ _ | refine blk_drew ?_ | refine blk_alloc ?_ _)); refine blk_put (cs := #[.int .i64 t131, .int .i64 0]) ?_ 1 _ rfl; (with_reducible repeat (first | refine blk_drewN ?_ _ | refine blk_drew ?_ | refine blk_alloc ?_ _)); refine blk_put (cs := #[.int .i64 0, .int .i64 0]) ?_ 0 _ rfl; (with_reducible repeat (first | refine blk_drewN ?_ _ | refine blk_drew ?_ | refine blk_alloc ?_ _)); exact BK134.out) hb); have n1_ := Aside0.mk (below_step (by repeat (first | (with_reducible first | exact HB.out | apply below_alloc | apply pw_below_drewN | apply below_drew1 | refine below_set ?_ GE134.out) | exact HB.out)) hb); clear BK134; clear HB; have BK134 := n0_; have HB := n1_; clear n0_ n1_; (try clear hb); (try clear hb2); (try clear hk); (try clear hi)) | ((with_reducible refine gate_dst (N := 3) rfl ?_); refine box_event ?hg (N := 3) ?hd (cs := #[.int .i64 0, .int .i64 0]) (t := 25) ?hr ?_; (case hd => rfl); (case hg => rfl); (case hr => first | (go_simp; done) | (go_simp; rfl)); intro gb138 hg w19 hbox hb; have n0_ := Aside0.mk (blk_below (g := gb134) (o := .cells #[.int .i64 t131, .int .i64 t132] 25 (0, 0)) (by (with_reducible repeat (first | refine blk_drewN ?_ _ | refine blk_drew ?_ | refine blk_alloc ?_ _)); exact BK134.out) hb); have n1_ := Aside0.mk (below_step (by repeat (first | (with_reducible first | exact HB.out | apply below_alloc | apply pw_below_drewN | apply below_drew1 | refine below_set ?_ GE134.out) | exact HB.out)) hb); have n2_ := Aside0.mk (hbox); have n3_ := Aside0.mk ((by rw [hg]; exact (below_size (by repeat (first | (with_reducible first | exact HB.out | apply below_alloc | apply pw_below_drewN | apply below_drew1 | refine below_set ?_ GE134.out) | exact HB.out))) : w.heap.size ≤ gb138)); have n4_ := Aside0.mk ((by rw [hg]; exact (below_size (by repeat (first | (with_reducible first | exact HB.out | apply below_alloc | apply pw_below_drewN | apply below_drew1 | refine below_set ?_ GE134.out) | exact HB.out))) : w.heap.size ≤ gb138)); have n5_ := Aside0.mk ((by rw [hg]; exact Nat.ne_of_lt (blk_lt (g := gb134) (o := .cells #[.int .i64 t131, .int .i64 t132] 25 (0, 0)) (by (with_reducible repeat (first | refine blk_drewN ?_ _ | refine blk_drew ?_ | refine blk_alloc ?_ _)); exact BK134.out)) : gb134 ≠ gb138)); have n6_ := Aside0.mk ((by rw [hg]; exact Nat.ne_of_gt (blk_lt (g := gb134) (o := .cells #[.int .i64 t131, .int .i64 t132] 25 (0, 0)) (by (with_reducible repeat (first | refine blk_drewN ?_ _ | refine blk_drew ?_ | refine blk_alloc ?_ _)); exact BK134.out)) : gb138 ≠ gb134)); clear BK134; clear HB; have BK134 := n0_; have HB := n1_; have BK138 := n2_; have GW138 := n3_; have GE138 := n4_; have NB134_138 := n5_; have NB138_134 := n6_; clear n0_ n1_ n2_ n3_ n4_ n5_ n6_; clear hb hbox hg; have hnb20 := NB138_134.out; have hnc20 := NB134_138.out; have hcz21_0 : w19.cell? ⟨gb138, 0, none⟩ = some (.int .i64 0) := (blk_cell BK138.out 0).trans rfl; have hcz21_1 : w19.cell? ⟨gb138, 1, none⟩ = some (.int .i64 0) := (blk_cell BK138.out 1).trans rfl; have hfz21_0 := blk_frozen BK138.out 0; have hfz21_1 := blk_frozen BK138.out 1) | ((with_reducible refine gate_callee (f := 6) rfl ?_); refine goesL_ (some 18) rfl rfl Tryd.func6 (by kernel_rfl) rfl #[.agg #[.int .i64 3, .int .i64 5], .agg #[.int .i64 7, .int .i64 2]] rfl (by (try simp only [List.map_toArray, List.map_cons, List.map_nil]); first | done | rfl | (simp only [List.length_drop, List.length_take]; rfl)) ?_; (with_reducible refine (addr_Made.calls 3 5 7 2 t139 t140 t141 t142 true _ A3.out).mono ?_); rintro e w22 ⟨rfl, hb⟩; refine ⟨_, rfl, ?_⟩; have n0_ := Aside0.mk (blk_below (g := gb134) (o := .cells #[.int .i64 t131, .int .i64 t132] 25 (0, 0)) (by (with_reducible repeat (first | refine blk_drewN ?_ _ | refine blk_drew ?_ | refine blk_alloc ?_ _)); refine blk_far ?_ NB134_138.out _; (with_reducible repeat (first | refine blk_drewN ?_ _ | refine blk_drew ?_ | refine blk_alloc ?_ _)); refine blk_far ?_ NB134_138.out _; (with_reducible repeat (first | refine blk_drewN ?_ _ | refine blk_drew ?_ | refine blk_alloc ?_ _)); exact BK134.out) hb); have n1_ := Aside0.mk (blk_below (g := gb138) (o := .cells #[.int .i64 t135, .int .i64 t136] 25 (0, 0)) (by (with_reducible repeat (first | refine blk_drewN ?_ _ | refine blk_drew ?_ | refine blk_alloc ?_ _)); refine blk_put (cs := #[.int .i64 t135, .int .i64 0]) ?_ 1 _ rfl; (with_reducible repeat (first | refine blk_drewN ?_ _ | refine blk_drew ?_ | refine blk_alloc ?_ _)); refine blk_put (cs := #[.int .i64 0, .int .i64 0]) ?_ 0 _ rfl; (with_reducible repeat (first | refine blk_drewN ?_ _ | refine blk_drew ?_ | refine blk_alloc ?_ _)); exact BK138.out) hb); have n2_ := Aside0.mk (below_step (by repeat (first | (with_reducible first | exact HB.out | apply below_alloc | apply pw_below_drewN | apply below_drew1 | refine below_set ?_ GE134.out | refine below_set ?_ GE138.out) | exact HB.out)) hb); clear BK134; clear BK138; clear HB; have BK134 := n0_; have BK138 := n1_; have HB := n2_; clear n0_ n1_ n2_; (try clear hb); (try clear hb2); (try clear hk); (try clear hi)) | ((with_reducible refine gate_dst (N := 5) rfl ?_); refine box_event ?hg (N := 5) ?hd (cs := #[.int .i64 0, .int .i64 0, .int .i64 0, .int .i64 0]) (t := 27) ?hr ?_; (case hd => rfl); (case hg => rfl); (case hr => first | (go_simp; done) | (go_simp; rfl)); intro gb144 hg w23 hbox hb; have n0_ := Aside0.mk (blk_below (g := gb134) (o := .cells #[.int .i64 t131, .int .i64 t132] 25 (0, 0)) (by (with_reducible repeat (first | refine blk_drewN ?_ _ | refine blk_drew ?_ | refine blk_alloc ?_ _)); exact BK134.out) hb); have n1_ := Aside0.mk (blk_below (g := gb138) (o := .cells #[.int .i64 t135, .int .i64 t136] 25 (0, 0)) (by (with_reducible repeat (first | refine blk_drewN ?_ _ | refine blk_drew ?_ | refine blk_alloc ?_ _)); exact BK138.out) hb); have n2_ := Aside0.mk (below_step (by repeat (first | (with_reducible first | exact HB.out | apply below_alloc | apply pw_below_drewN | apply below_drew1 | refine below_set ?_ GE134.out | refine below_set ?_ GE138.out) | exact HB.out)) hb); have n3_ := Aside0.mk (hbox); have n4_ := Aside0.mk ((by rw [hg]; exact (below_size (by repeat (first | (with_reducible first | exact HB.out | apply below_alloc | apply pw_below_drewN | apply below_drew1 | refine below_set ?_ GE134.out | refine below_set ?_ GE138.out) | exact HB.out))) : w.heap.size ≤ gb144)); have n5_ := Aside0.mk ((by rw [hg]; exact (below_size (by repeat (first | (with_reducible first | exact HB.out | apply below_alloc | apply pw_below_drewN | apply below_drew1 | refine below_set ?_ GE134.out | refine below_set ?_ GE138.out) | exact HB.out))) : w.heap.size ≤ gb144)); have n6_ := Aside0.mk ((by rw [hg]; exact Nat.ne_of_lt (blk_lt (g := gb134) (o := .cells #[.int .i64 t131, .int .i64 t132] 25 (0, 0)) (by (with_reducible repeat (first | refine blk_drewN ?_ _ | refine blk_drew ?_ | refine blk_alloc ?_ _)); exact BK134.out)) : gb134 ≠ gb144)); have n7_ := Aside0.mk ((by rw [hg]; exact Nat.ne_of_gt (blk_lt (g := gb134) (o := .cells #[.int .i64 t131, .int .i64 t132] 25 (0, 0)) (by (with_reducible repeat (first | refine blk_drewN ?_ _ | refine blk_drew ?_ | refine blk_alloc ?_ _)); exact BK134.out)) : gb144 ≠ gb134)); have n8_ := Aside0.mk ((by rw [hg]; exact Nat.ne_of_lt (blk_lt (g := gb138) (o := .cells #[.int .i64 t135, .int .i64 t136] 25 (0, 0)) (by (with_reducible repeat (first | refine blk_drewN ?_ _ | refine blk_drew ?_ | refine blk_alloc ?_ _)); exact BK138.out)) : gb138 ≠ gb144)); have n9_ := Aside0.mk ((by rw [hg]; exact Nat.ne_of_gt (blk_lt (g := gb138) (o := .cells #[.int .i64 t135, .int .i64 t136] 25 (0, 0)) (by (with_reducible repeat (first | refine blk_drewN ?_ _ | refine blk_drew ?_ | refine blk_alloc ?_ _)); exact BK138.out)) : gb144 ≠ gb138)); clear BK134; clear BK138; clear HB; have BK134 := n0_; have BK138 := n1_; have HB := n2_; have BK144 := n3_; have GW144 := n4_; have GE144 := n5_; have NB134_144 := n6_; have NB144_134 := n7_; have NB138_144 := n8_; have NB144_138 := n9_; clear n0_ n1_ n2_ n3_ n4_ n5_ n6_ n7_ n8_ n9_; clear hb hbox hg; have hnb24 := NB144_134.out; have hnc24 := NB134_144.out; have hnb25 := NB144_138.out; have hnc25 := NB138_144.out; have hcz26_0 : w23.cell? ⟨gb144, 0, none⟩ = some (.int .i64 0) := (blk_cell BK144.out 0).trans rfl; have hcz26_1 : w23.cell? ⟨gb144, 1, none⟩ = some (.int .i64 0) := (blk_cell BK144.out 1).trans rfl; have hcz26_2 : w23.cell? ⟨gb144, 2, none⟩ = some (.int .i64 0) := (blk_cell BK144.out 2).trans rfl; have hcz26_3 : w23.cell? ⟨gb144, 3, none⟩ = some (.int .i64 0) := (blk_cell BK144.out 3).trans rfl; have hfz26_0 := blk_frozen BK144.out 0; have hfz26_1 := blk_frozen BK144.out 1; have hfz26_2 := blk_frozen BK144.out 2; have hfz26_3 := blk_frozen BK144.out 3; have hcz27_0 : w23.cell? ⟨gb134, 0, none⟩ = some (.int .i64 t131) := (blk_cell BK134.out 0).trans rfl; have hcz27_1 : w23.cell? ⟨gb134, 1, none⟩ = some (.int .i64 t132) := (blk_cell BK134.out 1).trans rfl; have hfz27_0 := blk_frozen BK134.out 0; have hfz27_1 := blk_frozen BK134.out 1) | (go_at_call 27; (with_reducible refine (addr_Name.calls t131 t132 t145 _ ?side1 A8.out).mono ?_); (case side1 => exact gl_1_1 (by repeat (first | (with_reducible first | exact HB.out | apply below_alloc | apply pw_below_drewN | apply below_drew1 | refine below_set ?_ GE134.out | refine below_set ?_ GE138.out | refine below_set ?_ GE144.out) | exact HB.out)) hG); rintro e w28 ⟨rfl, hb⟩; have n0_ := Aside0.mk (blk_below (g := gb134) (o := .cells #[.int .i64 t131, .int .i64 t132] 25 (0, 0)) (by (with_reducible repeat (first | refine blk_drewN ?_ _ | refine blk_drew ?_ | refine blk_alloc ?_ _)); refine blk_far ?_ NB134_144.out _; (with_reducible repeat (first | refine blk_drewN ?_ _ | refine blk_drew ?_ | refine blk_alloc ?_ _)); refine blk_far ?_ NB134_144.out _; (with_reducible repeat (first | refine blk_drewN ?_ _ | refine blk_drew ?_ | refine blk_alloc ?_ _)); refine blk_far ?_ NB134_144.out _; (with_reducible repeat (first | refine blk_drewN ?_ _ | refine blk_drew ?_ | refine blk_alloc ?_ _)); refine blk_far ?_ NB134_144.out _; (with_reducible repeat (first | refine blk_drewN ?_ _ | refine blk_drew ?_ | refine blk_alloc ?_ _)); exact BK134.out) hb); have n1_ := Aside0.mk (blk_below (g := gb138) (o := .cells #[.int .i64 t135, .int .i64 t136] 25 (0, 0)) (by (with_reducible repeat (first | refine blk_drewN ?_ _ | refine blk_drew ?_ | refine blk_alloc ?_ _)); refine blk_far ?_ NB138_144.out _; (with_reducible repeat (first | refine blk_drewN ?_ _ | refine blk_drew ?_ | refine blk_alloc ?_ _)); refine blk_far ?_ NB138_144.out _; (with_reducible repeat (first | refine blk_drewN ?_ _ | refine blk_drew ?_ | refine blk_alloc ?_ _)); refine blk_far ?_ NB138_144.out _; (with_reducible repeat (first | refine blk_drewN ?_ _ | refine blk_drew ?_ | refine blk_alloc ?_ _)); refine blk_far ?_ NB138_144.out _; (with_reducible repeat (first | refine blk_drewN ?_ _ | refine blk_drew ?_ | refine blk_alloc ?_ _)); exact BK138.out) hb); have n2_ := Aside0.mk (blk_below (g := gb144) (o := .cells #[.int .i64 t139, .int .i64 t140, .int .i64 t141, .int .i64 t142] 27 (0, 0)) (by (with_reducible repeat (first | refine blk_drewN ?_ _ | refine blk_drew ?_ | refine blk_alloc ?_ _)); refine blk_put (cs := #[.int .i64 t139, .int .i64 t140, .int .i64 t141, .int .i64 0]) ?_ 3 _ rfl; (with_reducible repeat (first | refine blk_drewN ?_ _ | refine blk_drew ?_ | refine blk_alloc ?_ _)); refine blk_put (cs := #[.int .i64 t139, .int .i64 t140, .int .i64 0, .int .i64 0]) ?_ 2 _ rfl; (with_reducible repeat (first | refine blk_drewN ?_ _ | refine blk_drew ?_ | refine blk_alloc ?_ _)); refine blk_put (cs := #[.int .i64 t139, .int .i64 0, .int .i64 0, .int .i64 0]) ?_ 1 _ rfl; (with_reducible repeat (first | refine blk_drewN ?_ _ | refine blk_drew ?_ | refine blk_alloc ?_ _)); refine blk_put (cs := #[.int .i64 0, .int .i64 0, .int .i64 0, .int .i64 0]) ?_ 0 _ rfl; (with_reducible repeat (first | refine blk_drewN ?_ _ | refine blk_drew ?_ | refine blk_alloc ?_ _)); exact BK144.out) hb); have n3_ := Aside0.mk (below_step (by repeat (first | (with_reducible first | exact HB.out | apply below_alloc | apply pw_below_drewN | apply below_drew1 | refine below_set ?_ GE134.out | refine below_set ?_ GE138.out | refine below_set ?_ GE144.out) | exact HB.out)) hb); clear BK134; clear BK138; clear BK144; clear HB; have BK134 := n0_; have BK138 := n1_; have BK144 := n2_; have HB := n3_; clear n0_ n1_ n2_ n3_; (try clear hb); (try clear hb2); (try clear hk); (try clear hi); have hcz29_0 : w28.cell? ⟨gb144, 0, none⟩ = some (.int .i64 t139) := (blk_cell BK144.out 0).trans rfl; have hcz29_1 : w28.cell? ⟨gb144, 1, none⟩ = some (.int .i64 t140) := (blk_cell BK144.out 1).trans rfl; have hcz29_2 : w28.cell? ⟨gb144, 2, none⟩ = some (.int .i64 t141) := (blk_cell BK144.out 2).trans rfl; have hcz29_3 : w28.cell? ⟨gb144, 3, none⟩ = some (.int .i64 t142) := (blk_cell BK144.out 3).trans rfl; have hfz29_0 := blk_frozen BK144.out 0; have hfz29_1 := blk_frozen BK144.out 1; have hfz29_2 := blk_frozen BK144.out 2; have hfz29_3 := blk_frozen BK144.out 3) | (go_at_call 9; (with_reducible refine (addr_Count.calls t139 t140 t141 t142 t146 _ A10.out).mono ?_); rintro e w30 ⟨rfl, hb⟩; have n0_ := Aside0.mk (blk_below (g := gb134) (o := .cells #[.int .i64 t131, .int .i64 t132] 25 (0, 0)) (by (with_reducible repeat (first | refine blk_drewN ?_ _ | refine blk_drew ?_ | refine blk_alloc ?_ _)); exact BK134.out) hb); have n1_ := Aside0.mk (blk_below (g := gb138) (o := .cells #[.int .i64 t135, .int .i64 t136] 25 (0, 0)) (by (with_reducible repeat (first | refine blk_drewN ?_ _ | refine blk_drew ?_ | refine blk_alloc ?_ _)); exact BK138.out) hb); have n2_ := Aside0.mk (blk_below (g := gb144) (o := .cells #[.int .i64 t139, .int .i64 t140, .int .i64 t141, .int .i64 t142] 27 (0, 0)) (by (with_reducible repeat (first | refine blk_drewN ?_ _ | refine blk_drew ?_ | refine blk_alloc ?_ _)); exact BK144.out) hb); have n3_ := Aside0.mk (below_step (by repeat (first | (with_reducible first | exact HB.out | apply below_alloc | apply pw_below_drewN | apply below_drew1 | refine below_set ?_ GE134.out | refine below_set ?_ GE138.out | refine below_set ?_ GE144.out) | exact HB.out)) hb); clear BK134; clear BK138; clear BK144; clear HB; have BK134 := n0_; have BK138 := n1_; have BK144 := n2_; have HB := n3_; clear n0_ n1_ n2_ n3_; (try clear hb); (try clear hb2); (try clear hk); (try clear hi); have hcz31_0 : w30.cell? ⟨gb144, 0, none⟩ = some (.int .i64 t139) := (blk_cell BK144.out 0).trans rfl; have hcz31_1 : w30.cell? ⟨gb144, 1, none⟩ = some (.int .i64 t140) := (blk_cell BK144.out 1).trans rfl; have hcz31_2 : w30.cell? ⟨gb144, 2, none⟩ = some (.int .i64 t141) := (blk_cell BK144.out 2).trans rfl; have hcz31_3 : w30.cell? ⟨gb144, 3, none⟩ = some (.int .i64 t142) := (blk_cell BK144.out 3).trans rfl; have hfz31_0 := blk_frozen BK144.out 0; have hfz31_1 := blk_frozen BK144.out 1; have hfz31_2 := blk_frozen BK144.out 2; have hfz31_3 := blk_frozen BK144.out 3) | (go_at_call 7; (with_reducible refine (addr_Has.calls t139 t140 t141 t142 4 4 true _ A12.out).mono ?_); rintro e w32 ⟨rfl, hb⟩; have n0_ := Aside0.mk (blk_below (g := gb134) (o := .cells #[.int .i64 t131, .int .i64 t132] 25 (0, 0)) (by (with_reducible repeat (first | refine blk_drewN ?_ _ | refine blk_drew ?_ | refine blk_alloc ?_ _)); exact BK134.out) hb); have n1_ := Aside0.mk (blk_below (g := gb138) (o := .cells #[.int .i64 t135, .int .i64 t136] 25 (0, 0)) (by (with_reducible repeat (first | refine blk_drewN ?_ _ | refine blk_drew ?_ | refine blk_alloc ?_ _)); exact BK138.out) hb); have n2_ := Aside0.mk (blk_below (g := gb144) (o := .cells #[.int .i64 t139, .int .i64 t140, .int .i64 t141, .int .i64 t142] 27 (0, 0)) (by (with_reducible repeat (first | refine blk_drewN ?_ _ | refine blk_drew ?_ | refine blk_alloc ?_ _)); exact BK144.out) hb); have n3_ := Aside0.mk (below_step (by repeat (first | (with_reducible first | exact HB.out | apply below_alloc | apply pw_below_drewN | apply below_drew1 | refine below_set ?_ GE134.out | refine below_set ?_ GE138.out | refine below_set ?_ GE144.out) | exact HB.out)) hb); clear BK134; clear BK138; clear BK144; clear HB; have BK134 := n0_; have BK138 := n1_; have BK144 := n2_; have HB := n3_; clear n0_ n1_ n2_ n3_; (try clear hb); (try clear hb2); (try clear hk); (try clear hi); have hcz33_0 : w32.cell? ⟨gb134, 0, none⟩ = some (.int .i64 t131) := (blk_cell BK134.out 0).trans rfl; have hcz33_1 : w32.cell? ⟨gb134, 1, none⟩ = some (.int .i64 t132) := (blk_cell BK134.out 1).trans rfl; have hfz33_0 := blk_frozen BK134.out 0; have hfz33_1 := blk_frozen BK134.out 1) | (go_at_call 25; (with_reducible refine (addr_Good.calls t131 t132 t148 _ A14.out).mono ?_); rintro e w34 ⟨rfl, hb⟩; have n0_ := Aside0.mk (blk_below (g := gb134) (o := .cells #[.int .i64 t131, .int .i64 t132] 25 (0, 0)) (by (with_reducible repeat (first | refine blk_drewN ?_ _ | refine blk_drew ?_ | refine blk_alloc ?_ _)); exact BK134.out) hb); have n1_ := Aside0.mk (blk_below (g := gb138) (o := .cells #[.int .i64 t135, .int .i64 t136] 25 (0, 0)) (by (with_reducible repeat (first | refine blk_drewN ?_ _ | refine blk_drew ?_ | refine blk_alloc ?_ _)); exact BK138.out) hb); have n2_ := Aside0.mk (blk_below (g := gb144) (o := .cells #[.int .i64 t139, .int .i64 t140, .int .i64 t141, .int .i64 t142] 27 (0, 0)) (by (with_reducible repeat (first | refine blk_drewN ?_ _ | refine blk_drew ?_ | refine blk_alloc ?_ _)); exact BK144.out) hb); have n3_ := Aside0.mk (below_step (by repeat (first | (with_reducible first | exact HB.out | apply below_alloc | apply pw_below_drewN | apply below_drew1 | refine below_set ?_ GE134.out | refine below_set ?_ GE138.out | refine below_set ?_ GE144.out) | exact HB.out)) hb); clear BK134; clear BK138; clear BK144; clear HB; have BK134 := n0_; have BK138 := n1_; have BK144 := n2_; have HB := n3_; clear n0_ n1_ n2_ n3_; (try clear hb); (try clear hb2); (try clear hk); (try clear hi)))
                go_ret
                exact ⟨by first | rfl | (simp [errW_none, errW_some] <;> rfl) | (simp [*, errW_none, errW_some] <;> rfl), by repeat (first | (with_reducible first | exact HB.out | apply below_alloc | apply pw_below_drewN | apply below_drew1 | refine below_set ?_ GE134.out | refine below_set ?_ GE138.out | refine below_set ?_ GE144.out) | exact HB.out)⟩
              · replace c13 := Bool.eq_false_iff.mpr c13
                subst c13
                have H1 : (none) = some r := by rw [if_neg (show ¬ (false = true) by decide)] at H; exact H
                clear H
                have H := H1
                clear H1
                exact absurd H (by simp)
            · rw [if_neg c11] at H
              exact absurd H (by simp)
          · rw [if_neg c9] at H
            exact absurd H (by simp)
        · rw [if_neg c7] at H
          exact absurd H (by simp)
      · replace c6 := Bool.eq_false_iff.mpr c6
        subst c6
        have H1 : (none) = some r := by rw [if_neg (show ¬ (false = true) by decide)] at H; exact H
        clear H
        have H := H1
        clear H1
        exact absurd H (by simp)
  · replace c4 := Bool.eq_false_iff.mpr c4
    subst c4
    have H1 : (none) = some r := by rw [if_neg (show ¬ (false = true) by decide)] at H; exact H
    clear H
    have H := H1
    clear H1
    exact absurd H (by simp)

end Go.Proofs.YtmhjnkeflbklpaaDoor.P

/- The law's wakes are true. -/
namespace Go.Proofs.YtmhjnkeflbklpaaDoor.P
open Go.RowKit Go.Proofs.YtmhjnkeflbklpaaDoorW.PrintWords Go.Proofs.YtmhjnkeflbklpaaDoorW.PrintLast Go.Proofs.YtmhjnkeflbklpaaDoorW.PrintMore
open M (fit I64 u64w dig itoaF)
set_option linter.unusedVariables false
set_option linter.unusedSimpArgs false

theorem wakes02 : pannierlaw02_wakes.f = some true := by decide +kernel
end Go.Proofs.YtmhjnkeflbklpaaDoor.P

namespace Go.Proofs.YtmhjnkeflbklpaaDoor.P
open Go.RowKit Go.Proofs.YtmhjnkeflbklpaaDoorW.PrintWords Go.Proofs.YtmhjnkeflbklpaaDoorW.PrintLast Go.Proofs.YtmhjnkeflbklpaaDoorW.PrintMore
attribute [local go_sem] max2_int min2_int max_two min_two max_three min_three max_four min_four   -- for this text's walks alone
set_option linter.unusedVariables false
set_option linter.unusedSimpArgs false

/-! ### addr_Meet: function 8 -/
def addr_Meet.f (a0_0 : Int) (a0_1 : Int) (a0_2 : Int) (a0_3 : Int) (a1_0 : Int) (a1_1 : Int) (a1_2 : Int) (a1_3 : Int) : Option (Bool) := (addr_Fine.f a0_0 a0_1 a0_2 a0_3).bind fun t117 => (if t117 = true then ((addr_Fine.f a1_0 a1_1 a1_2 a1_3).bind fun t118 => (if t118 = true then (if a0_0 ≤ a1_2 then (if a1_0 ≤ a0_2 then (if a0_1 ≤ a1_3 then (some (decide (a1_1 ≤ a0_3))) else (some false)) else (some false)) else (some false)) else (some false))) else (some false))
set_option maxHeartbeats 8000000 in
set_option maxRecDepth 100000 in
theorem addr_Meet.calls (a0_0 : Int) (a0_1 : Int) (a0_2 : Int) (a0_3 : Int) (a1_0 : Int) (a1_1 : Int) (a1_2 : Int) (a1_3 : Int) (r : Bool) (w : World) (h : addr_Meet.f a0_0 a0_1 a0_2 a0_3 a1_0 a1_1 a1_2 a1_3 = some r) :
    Calls Tryd.prog 8 #[.agg #[.int .i64 a0_0, .int .i64 a0_1, .int .i64 a0_2, .int .i64 a0_3], .agg #[.int .i64 a1_0, .int .i64 a1_1, .int .i64 a1_2, .int .i64 a1_3]] w fun e w' => e = .returned (.bool r) ∧ Below w.heap.size w w' := by
  have hu27 := Tryd.underlying27
  have HB := Aside0.mk (Below.refl w.heap.size w)
  have H : ((addr_Fine.f a0_0 a0_1 a0_2 a0_3).bind fun t117 => (if t117 = true then ((addr_Fine.f a1_0 a1_1 a1_2 a1_3).bind fun t118 => (if t118 = true then (if a0_0 ≤ a1_2 then (if a1_0 ≤ a0_2 then (if a0_1 ≤ a1_3 then (some (decide (a1_1 ≤ a0_3))) else (some false)) else (some false)) else (some false)) else (some false))) else (some false))) = some r := h
  clear h
  replace H := Option.bind_eq_some_iff.mp H
  obtain ⟨t117, A30, H⟩ := H
  replace H : (if t117 = true then ((addr_Fine.f a1_0 a1_1 a1_2 a1_3).bind fun t118 => (if t118 = true then (if a0_0 ≤ a1_2 then (if a1_0 ≤ a0_2 then (if a0_1 ≤ a1_3 then (some (decide (a1_1 ≤ a0_3))) else (some false)) else (some false)) else (some false)) else (some false))) else (some false)) = some r := H
  have A3 := Aside0.mk A30
  clear A30
  by_cases c4 : t117 = true
  · subst c4
    have H1 : ((addr_Fine.f a1_0 a1_1 a1_2 a1_3).bind fun t118 => (if t118 = true then (if a0_0 ≤ a1_2 then (if a1_0 ≤ a0_2 then (if a0_1 ≤ a1_3 then (some (decide (a1_1 ≤ a0_3))) else (some false)) else (some false)) else (some false)) else (some false))) = some r := by rw [if_pos rfl] at H; exact H
    clear H
    have H := H1
    clear H1
    replace H := Option.bind_eq_some_iff.mp H
    obtain ⟨t118, A50, H⟩ := H
    replace H : (if t118 = true then (if a0_0 ≤ a1_2 then (if a1_0 ≤ a0_2 then (if a0_1 ≤ a1_3 then (some (decide (a1_1 ≤ a0_3))) else (some false)) else (some false)) else (some false)) else (some false)) = some r := H
    have A5 := Aside0.mk A50
    clear A50
    by_cases c6 : t118 = true
    · subst c6
      have H1 : (if a0_0 ≤ a1_2 then (if a1_0 ≤ a0_2 then (if a0_1 ≤ a1_3 then (some (decide (a1_1 ≤ a0_3))) else (some false)) else (some false)) else (some false)) = some r := by rw [if_pos rfl] at H; exact H
      clear H
      have H := H1
      clear H1
      by_cases c7 : a0_0 ≤ a1_2
      · rw [if_pos c7] at H
        have c7b0 : decide (a0_0 ≤ a1_2) = true := decide_eq_true c7
        clear c7
        by_cases c8 : a1_0 ≤ a0_2
        · rw [if_pos c8] at H
          have c8b0 : decide (a1_0 ≤ a0_2) = true := decide_eq_true c8
          clear c8
          by_cases c9 : a0_1 ≤ a1_3
          · rw [if_pos c9] at H
            have c9b0 : decide (a0_1 ≤ a1_3) = true := decide_eq_true c9
            clear c9
            obtain rfl := Option.some.inj H
            go_enter Tryd.func8, Tryd.ntmps8
            go_wp2_with (first | ((with_reducible refine gate_dst (N := 2) rfl ?_); refine box_event ?hg (N := 2) ?hd (cs := #[.int .i64 a0_0, .int .i64 a0_1, .int .i64 a0_2, .int .i64 a0_3]) (t := 27) ?hr ?_; (case hd => rfl); (case hg => rfl); (case hr => first | (go_simp; done) | (go_simp; rfl)); intro gb115 hg w10 hbox hb; have n0_ := Aside0.mk (below_step (by repeat (first | (with_reducible first | exact HB.out | apply below_alloc | apply pw_below_drewN | apply below_drew1) | exact HB.out)) hb); have n1_ := Aside0.mk (hbox); have n2_ := Aside0.mk ((by rw [hg]; exact (below_size (by repeat (first | (with_reducible first | exact HB.out | apply below_alloc | apply pw_below_drewN | apply below_drew1) | exact HB.out))) : w.heap.size ≤ gb115)); have n3_ := Aside0.mk ((by rw [hg]; exact (below_size (by repeat (first | (with_reducible first | exact HB.out | apply below_alloc | apply pw_below_drewN | apply below_drew1) | exact HB.out))) : w.heap.size ≤ gb115)); clear HB; have HB := n0_; have BK115 := n1_; have GW115 := n2_; have GE115 := n3_; clear n0_ n1_ n2_ n3_; clear hb hbox hg) | ((with_reducible refine gate_dst (N := 3) rfl ?_); refine box_event ?hg (N := 3) ?hd (cs := #[.int .i64 a1_0, .int .i64 a1_1, .int .i64 a1_2, .int .i64 a1_3]) (t := 27) ?hr ?_; (case hd => rfl); (case hg => rfl); (case hr => first | (go_simp; done) | (go_simp; rfl)); intro gb116 hg w11 hbox hb; have n0_ := Aside0.mk (blk_below (g := gb115) (o := .cells #[.int .i64 a0_0, .int .i64 a0_1, .int .i64 a0_2, .int .i64 a0_3] 27 (0, 0)) (by (with_reducible repeat (first | refine blk_drewN ?_ _ | refine blk_drew ?_ | refine blk_alloc ?_ _)); exact BK115.out) hb); have n1_ := Aside0.mk (below_step (by repeat (first | (with_reducible first | exact HB.out | apply below_alloc | apply pw_below_drewN | apply below_drew1 | refine below_set ?_ GE115.out) | exact HB.out)) hb); have n2_ := Aside0.mk (hbox); have n3_ := Aside0.mk ((by rw [hg]; exact (below_size (by repeat (first | (with_reducible first | exact HB.out | apply below_alloc | apply pw_below_drewN | apply below_drew1 | refine below_set ?_ GE115.out) | exact HB.out))) : w.heap.size ≤ gb116)); have n4_ := Aside0.mk ((by rw [hg]; exact (below_size (by repeat (first | (with_reducible first | exact HB.out | apply below_alloc | apply pw_below_drewN | apply below_drew1 | refine below_set ?_ GE115.out) | exact HB.out))) : w.heap.size ≤ gb116)); have n5_ := Aside0.mk ((by rw [hg]; exact Nat.ne_of_lt (blk_lt (g := gb115) (o := .cells #[.int .i64 a0_0, .int .i64 a0_1, .int .i64 a0_2, .int .i64 a0_3] 27 (0, 0)) (by (with_reducible repeat (first | refine blk_drewN ?_ _ | refine blk_drew ?_ | refine blk_alloc ?_ _)); exact BK115.out)) : gb115 ≠ gb116)); have n6_ := Aside0.mk ((by rw [hg]; exact Nat.ne_of_gt (blk_lt (g := gb115) (o := .cells #[.int .i64 a0_0, .int .i64 a0_1, .int .i64 a0_2, .int .i64 a0_3] 27 (0, 0)) (by (with_reducible repeat (first | refine blk_drewN ?_ _ | refine blk_drew ?_ | refine blk_alloc ?_ _)); exact BK115.out)) : gb116 ≠ gb115)); clear BK115; clear HB; have BK115 := n0_; have HB := n1_; have BK116 := n2_; have GW116 := n3_; have GE116 := n4_; have NB115_116 := n5_; have NB116_115 := n6_; clear n0_ n1_ n2_ n3_ n4_ n5_ n6_; clear hb hbox hg; have hnb12 := NB115_116.out; have hnc12 := NB116_115.out; have hcz13_0 : w11.cell? ⟨gb115, 0, none⟩ = some (.int .i64 a0_0) := (blk_cell BK115.out 0).trans rfl; have hcz13_1 : w11.cell? ⟨gb115, 1, none⟩ = some (.int .i64 a0_1) := (blk_cell BK115.out 1).trans rfl; have hcz13_2 : w11.cell? ⟨gb115, 2, none⟩ = some (.int .i64 a0_2) := (blk_cell BK115.out 2).trans rfl; have hcz13_3 : w11.cell? ⟨gb115, 3, none⟩ = some (.int .i64 a0_3) := (blk_cell BK115.out 3).trans rfl; have hfz13_0 := blk_frozen BK115.out 0; have hfz13_1 := blk_frozen BK115.out 1; have hfz13_2 := blk_frozen BK115.out 2; have hfz13_3 := blk_frozen BK115.out 3) | ((with_reducible refine gate_callee (f := 13) rfl ?_); refine goesL_ (some 6) rfl rfl Tryd.func13 (by kernel_rfl) rfl #[.agg #[.int .i64 a0_0, .int .i64 a0_1, .int .i64 a0_2, .int .i64 a0_3]] rfl (by (try simp only [List.map_toArray, List.map_cons, List.map_nil]); first | done | rfl | (simp only [List.length_drop, List.length_take]; rfl)) ?_; (with_reducible refine (addr_Fine.calls a0_0 a0_1 a0_2 a0_3 true _ A3.out).mono ?_); rintro e w14 ⟨rfl, hb⟩; refine ⟨_, rfl, ?_⟩; have n0_ := Aside0.mk (blk_below (g := gb115) (o := .cells #[.int .i64 a0_0, .int .i64 a0_1, .int .i64 a0_2, .int .i64 a0_3] 27 (0, 0)) (by (with_reducible repeat (first | refine blk_drewN ?_ _ | refine blk_drew ?_ | refine blk_alloc ?_ _)); exact BK115.out) hb); have n1_ := Aside0.mk (blk_below (g := gb116) (o := .cells #[.int .i64 a1_0, .int .i64 a1_1, .int .i64 a1_2, .int .i64 a1_3] 27 (0, 0)) (by (with_reducible repeat (first | refine blk_drewN ?_ _ | refine blk_drew ?_ | refine blk_alloc ?_ _)); exact BK116.out) hb); have n2_ := Aside0.mk (below_step (by repeat (first | (with_reducible first | exact HB.out | apply below_alloc | apply pw_below_drewN | apply below_drew1 | refine below_set ?_ GE115.out | refine below_set ?_ GE116.out) | exact HB.out)) hb); clear BK115; clear BK116; clear HB; have BK115 := n0_; have BK116 := n1_; have HB := n2_; clear n0_ n1_ n2_; (try clear hb); (try clear hb2); (try clear hk); (try clear hi); have hcz15_0 : w14.cell? ⟨gb116, 0, none⟩ = some (.int .i64 a1_0) := (blk_cell BK116.out 0).trans rfl; have hcz15_1 : w14.cell? ⟨gb116, 1, none⟩ = some (.int .i64 a1_1) := (blk_cell BK116.out 1).trans rfl; have hcz15_2 : w14.cell? ⟨gb116, 2, none⟩ = some (.int .i64 a1_2) := (blk_cell BK116.out 2).trans rfl; have hcz15_3 : w14.cell? ⟨gb116, 3, none⟩ = some (.int .i64 a1_3) := (blk_cell BK116.out 3).trans rfl; have hfz15_0 := blk_frozen BK116.out 0; have hfz15_1 := blk_frozen BK116.out 1; have hfz15_2 := blk_frozen BK116.out 2; have hfz15_3 := blk_frozen BK116.out 3) | (go_at_call 13; (with_reducible refine (addr_Fine.calls a1_0 a1_1 a1_2 a1_3 true _ A5.out).mono ?_); rintro e w16 ⟨rfl, hb⟩; have n0_ := Aside0.mk (blk_below (g := gb115) (o := .cells #[.int .i64 a0_0, .int .i64 a0_1, .int .i64 a0_2, .int .i64 a0_3] 27 (0, 0)) (by (with_reducible repeat (first | refine blk_drewN ?_ _ | refine blk_drew ?_ | refine blk_alloc ?_ _)); exact BK115.out) hb); have n1_ := Aside0.mk (blk_below (g := gb116) (o := .cells #[.int .i64 a1_0, .int .i64 a1_1, .int .i64 a1_2, .int .i64 a1_3] 27 (0, 0)) (by (with_reducible repeat (first | refine blk_drewN ?_ _ | refine blk_drew ?_ | refine blk_alloc ?_ _)); exact BK116.out) hb); have n2_ := Aside0.mk (below_step (by repeat (first | (with_reducible first | exact HB.out | apply below_alloc | apply pw_below_drewN | apply below_drew1 | refine below_set ?_ GE115.out | refine below_set ?_ GE116.out) | exact HB.out)) hb); clear BK115; clear BK116; clear HB; have BK115 := n0_; have BK116 := n1_; have HB := n2_; clear n0_ n1_ n2_; (try clear hb); (try clear hb2); (try clear hk); (try clear hi); have hcz17_0 : w16.cell? ⟨gb115, 0, none⟩ = some (.int .i64 a0_0) := (blk_cell BK115.out 0).trans rfl; have hcz17_1 : w16.cell? ⟨gb115, 1, none⟩ = some (.int .i64 a0_1) := (blk_cell BK115.out 1).trans rfl; have hcz17_2 : w16.cell? ⟨gb115, 2, none⟩ = some (.int .i64 a0_2) := (blk_cell BK115.out 2).trans rfl; have hcz17_3 : w16.cell? ⟨gb115, 3, none⟩ = some (.int .i64 a0_3) := (blk_cell BK115.out 3).trans rfl; have hfz17_0 := blk_frozen BK115.out 0; have hfz17_1 := blk_frozen BK115.out 1; have hfz17_2 := blk_frozen BK115.out 2; have hfz17_3 := blk_frozen BK115.out 3; have hcz18_0 : w16.cell? ⟨gb116, 0, none⟩ = some (.int .i64 a1_0) := (blk_cell BK116.out 0).trans rfl; have hcz18_1 : w16.cell? ⟨gb116, 1, none⟩ = some (.int .i64 a1_1) := (blk_cell BK116.out 1).trans rfl; have hcz18_2 : w16.cell? ⟨gb116, 2, none⟩ = some (.int .i64 a1_2) := (blk_cell BK116.out 2).trans rfl; have hcz18_3 : w16.cell? ⟨gb116, 3, none⟩ = some (.int .i64 a1_3) := (blk_cell BK116.out 3).trans rfl; have hfz18_0 := blk_frozen BK116.out 0; have hfz18_1 := blk_frozen BK116.out 1; have hfz18_2 := blk_frozen BK116.out 2; have hfz18_3 := blk_frozen BK116.out 3))
            go_ret
            exact ⟨by first | rfl | (simp [errW_none, errW_some] <;> rfl) | (simp [*, errW_none, errW_some] <;> rfl), by repeat (first | (with_reducible first | exact HB.out | apply below_alloc | apply pw_below_drewN | apply below_drew1 | refine below_set ?_ GE115.out | refine below_set ?_ GE116.out) | exact HB.out)⟩
          · rw [if_neg c9] at H
            have c9b0 : decide (a0_1 ≤ a1_3) = false := decide_eq_false c9
            clear c9
            obtain rfl := Option.some.inj H
            go_enter Tryd.func8, Tryd.ntmps8
            go_wp2_with (first | ((with_reducible refine gate_dst (N := 2) rfl ?_); refine box_event ?hg (N := 2) ?hd (cs := #[.int .i64 a0_0, .int .i64 a0_1, .int .i64 a0_2, .int .i64 a0_3]) (t := 27) ?hr ?_; (case hd => rfl); (case hg => rfl); (case hr => first | (go_simp; done) | (go_simp; rfl)); intro gb115 hg w19 hbox hb; have n0_ := Aside0.mk (below_step (by repeat (first | (with_reducible first | exact HB.out | apply below_alloc | apply pw_below_drewN | apply below_drew1) | exact HB.out)) hb); have n1_ := Aside0.mk (hbox); have n2_ := Aside0.mk ((by rw [hg]; exact (below_size (by repeat (first | (with_reducible first | exact HB.out | apply below_alloc | apply pw_below_drewN | apply below_drew1) | exact HB.out))) : w.heap.size ≤ gb115)); have n3_ := Aside0.mk ((by rw [hg]; exact (below_size (by repeat (first | (with_reducible first | exact HB.out | apply below_alloc | apply pw_below_drewN | apply below_drew1) | exact HB.out))) : w.heap.size ≤ gb115)); clear HB; have HB := n0_; have BK115 := n1_; have GW115 := n2_; have GE115 := n3_; clear n0_ n1_ n2_ n3_; clear hb hbox hg) | ((with_reducible refine gate_dst (N := 3) rfl ?_); refine box_event ?hg (N := 3) ?hd (cs := #[.int .i64 a1_0, .int .i64 a1_1, .int .i64 a1_2, .int .i64 a1_3]) (t := 27) ?hr ?_; (case hd => rfl); (case hg => rfl); (case hr => first | (go_simp; done) | (go_simp; rfl)); intro gb116 hg w20 hbox hb; have n0_ := Aside0.mk (blk_below (g := gb115) (o := .cells #[.int .i64 a0_0, .int .i64 a0_1, .int .i64 a0_2, .int .i64 a0_3] 27 (0, 0)) (by (with_reducible repeat (first | refine blk_drewN ?_ _ | refine blk_drew ?_ | refine blk_alloc ?_ _)); exact BK115.out) hb); have n1_ := Aside0.mk (below_step (by repeat (first | (with_reducible first | exact HB.out | apply below_alloc | apply pw_below_drewN | apply below_drew1 | refine below_set ?_ GE115.out) | exact HB.out)) hb); have n2_ := Aside0.mk (hbox); have n3_ := Aside0.mk ((by rw [hg]; exact (below_size (by repeat (first | (with_reducible first | exact HB.out | apply below_alloc | apply pw_below_drewN | apply below_drew1 | refine below_set ?_ GE115.out) | exact HB.out))) : w.heap.size ≤ gb116)); have n4_ := Aside0.mk ((by rw [hg]; exact (below_size (by repeat (first | (with_reducible first | exact HB.out | apply below_alloc | apply pw_below_drewN | apply below_drew1 | refine below_set ?_ GE115.out) | exact HB.out))) : w.heap.size ≤ gb116)); have n5_ := Aside0.mk ((by rw [hg]; exact Nat.ne_of_lt (blk_lt (g := gb115) (o := .cells #[.int .i64 a0_0, .int .i64 a0_1, .int .i64 a0_2, .int .i64 a0_3] 27 (0, 0)) (by (with_reducible repeat (first | refine blk_drewN ?_ _ | refine blk_drew ?_ | refine blk_alloc ?_ _)); exact BK115.out)) : gb115 ≠ gb116)); have n6_ := Aside0.mk ((by rw [hg]; exact Nat.ne_of_gt (blk_lt (g := gb115) (o := .cells #[.int .i64 a0_0, .int .i64 a0_1, .int .i64 a0_2, .int .i64 a0_3] 27 (0, 0)) (by (with_reducible repeat (first | refine blk_drewN ?_ _ | refine blk_drew ?_ | refine blk_alloc ?_ _)); exact BK115.out)) : gb116 ≠ gb115)); clear BK115; clear HB; have BK115 := n0_; have HB := n1_; have BK116 := n2_; have GW116 := n3_; have GE116 := n4_; have NB115_116 := n5_; have NB116_115 := n6_; clear n0_ n1_ n2_ n3_ n4_ n5_ n6_; clear hb hbox hg; have hnb21 := NB115_116.out; have hnc21 := NB116_115.out; have hcz22_0 : w20.cell? ⟨gb115, 0, none⟩ = some (.int .i64 a0_0) := (blk_cell BK115.out 0).trans rfl; have hcz22_1 : w20.cell? ⟨gb115, 1, none⟩ = some (.int .i64 a0_1) := (blk_cell BK115.out 1).trans rfl; have hcz22_2 : w20.cell? ⟨gb115, 2, none⟩ = some (.int .i64 a0_2) := (blk_cell BK115.out 2).trans rfl; have hcz22_3 : w20.cell? ⟨gb115, 3, none⟩ = some (.int .i64 a0_3) := (blk_cell BK115.out 3).trans rfl; have hfz22_0 := blk_frozen BK115.out 0; have hfz22_1 := blk_frozen BK115.out 1; have hfz22_2 := blk_frozen BK115.out 2; have hfz22_3 := blk_frozen BK115.out 3) | ((with_reducible refine gate_callee (f := 13) rfl ?_); refine goesL_ (some 6) rfl rfl Tryd.func13 (by kernel_rfl) rfl #[.agg #[.int .i64 a0_0, .int .i64 a0_1, .int .i64 a0_2, .int .i64 a0_3]] rfl (by (try simp only [List.map_toArray, List.map_cons, List.map_nil]); first | done | rfl | (simp only [List.length_drop, List.length_take]; rfl)) ?_; (with_reducible refine (addr_Fine.calls a0_0 a0_1 a0_2 a0_3 true _ A3.out).mono ?_); rintro e w23 ⟨rfl, hb⟩; refine ⟨_, rfl, ?_⟩; have n0_ := Aside0.mk (blk_below (g := gb115) (o := .cells #[.int .i64 a0_0, .int .i64 a0_1, .int .i64 a0_2, .int .i64 a0_3] 27 (0, 0)) (by (with_reducible repeat (first | refine blk_drewN ?_ _ | refine blk_drew ?_ | refine blk_alloc ?_ _)); exact BK115.out) hb); have n1_ := Aside0.mk (blk_below (g := gb116) (o := .cells #[.int .i64 a1_0, .int .i64 a1_1, .int .i64 a1_2, .int .i64 a1_3] 27 (0, 0)) (by (with_reducible repeat (first | refine blk_drewN ?_ _ | refine blk_drew ?_ | refine blk_alloc ?_ _)); exact BK116.out) hb); have n2_ := Aside0.mk (below_step (by repeat (first | (with_reducible first | exact HB.out | apply below_alloc | apply pw_below_drewN | apply below_drew1 | refine below_set ?_ GE115.out | refine below_set ?_ GE116.out) | exact HB.out)) hb); clear BK115; clear BK116; clear HB; have BK115 := n0_; have BK116 := n1_; have HB := n2_; clear n0_ n1_ n2_; (try clear hb); (try clear hb2); (try clear hk); (try clear hi); have hcz24_0 : w23.cell? ⟨gb116, 0, none⟩ = some (.int .i64 a1_0) := (blk_cell BK116.out 0).trans rfl; have hcz24_1 : w23.cell? ⟨gb116, 1, none⟩ = some (.int .i64 a1_1) := (blk_cell BK116.out 1).trans rfl; have hcz24_2 : w23.cell? ⟨gb116, 2, none⟩ = some (.int .i64 a1_2) := (blk_cell BK116.out 2).trans rfl; have hcz24_3 : w23.cell? ⟨gb116, 3, none⟩ = some (.int .i64 a1_3) := (blk_cell BK116.out 3).trans rfl; have hfz24_0 := blk_frozen BK116.out 0; have hfz24_1 := blk_frozen BK116.out 1; have hfz24_2 := blk_frozen BK116.out 2; have hfz24_3 := blk_frozen BK116.out 3) | (go_at_call 13; (with_reducible refine (addr_Fine.calls a1_0 a1_1 a1_2 a1_3 true _ A5.out).mono ?_); rintro e w25 ⟨rfl, hb⟩; have n0_ := Aside0.mk (blk_below (g := gb115) (o := .cells #[.int .i64 a0_0, .int .i64 a0_1, .int .i64 a0_2, .int .i64 a0_3] 27 (0, 0)) (by (with_reducible repeat (first | refine blk_drewN ?_ _ | refine blk_drew ?_ | refine blk_alloc ?_ _)); exact BK115.out) hb); have n1_ := Aside0.mk (blk_below (g := gb116) (o := .cells #[.int .i64 a1_0, .int .i64 a1_1, .int .i64 a1_2, .int .i64 a1_3] 27 (0, 0)) (by (with_reducible repeat (first | refine blk_drewN ?_ _ | refine blk_drew ?_ | refine blk_alloc ?_ _)); exact BK116.out) hb); have n2_ := Aside0.mk (below_step (by repeat (first | (with_reducible first | exact HB.out | apply below_alloc | apply pw_below_drewN | apply below_drew1 | refine below_set ?_ GE115.out | refine below_set ?_ GE116.out) | exact HB.out)) hb); clear BK115; clear BK116; clear HB; have BK115 := n0_; have BK116 := n1_; have HB := n2_; clear n0_ n1_ n2_; (try clear hb); (try clear hb2); (try clear hk); (try clear hi); have hcz26_0 : w25.cell? ⟨gb115, 0, none⟩ = some (.int .i64 a0_0) := (blk_cell BK115.out 0).trans rfl; have hcz26_1 : w25.cell? ⟨gb115, 1, none⟩ = some (.int .i64 a0_1) := (blk_cell BK115.out 1).trans rfl; have hcz26_2 : w25.cell? ⟨gb115, 2, none⟩ = some (.int .i64 a0_2) := (blk_cell BK115.out 2).trans rfl; have hcz26_3 : w25.cell? ⟨gb115, 3, none⟩ = some (.int .i64 a0_3) := (blk_cell BK115.out 3).trans rfl; have hfz26_0 := blk_frozen BK115.out 0; have hfz26_1 := blk_frozen BK115.out 1; have hfz26_2 := blk_frozen BK115.out 2; have hfz26_3 := blk_frozen BK115.out 3; have hcz27_0 : w25.cell? ⟨gb116, 0, none⟩ = some (.int .i64 a1_0) := (blk_cell BK116.out 0).trans rfl; have hcz27_1 : w25.cell? ⟨gb116, 1, none⟩ = some (.int .i64 a1_1) := (blk_cell BK116.out 1).trans rfl; have hcz27_2 : w25.cell? ⟨gb116, 2, none⟩ = some (.int .i64 a1_2) := (blk_cell BK116.out 2).trans rfl; have hcz27_3 : w25.cell? ⟨gb116, 3, none⟩ = some (.int .i64 a1_3) := (blk_cell BK116.out 3).trans rfl; have hfz27_0 := blk_frozen BK116.out 0; have hfz27_1 := blk_frozen BK116.out 1; have hfz27_2 := blk_frozen BK116.out 2; have hfz27_3 := blk_frozen BK116.out 3))
            go_ret
            exact ⟨by first | rfl | (simp [errW_none, errW_some] <;> rfl) | (simp [*, errW_none, errW_some] <;> rfl), by repeat (first | (with_reducible first | exact HB.out | apply below_alloc | apply pw_below_drewN | apply below_drew1 | refine below_set ?_ GE115.out | refine below_set ?_ GE116.out) | exact HB.out)⟩
        · rw [if_neg c8] at H
          have c8b0 : decide (a1_0 ≤ a0_2) = false := decide_eq_false c8
          clear c8
          obtain rfl := Option.some.inj H
          go_enter Tryd.func8, Tryd.ntmps8
          go_wp2_with (first | ((with_reducible refine gate_dst (N := 2) rfl ?_); refine box_event ?hg (N := 2) ?hd (cs := #[.int .i64 a0_0, .int .i64 a0_1, .int .i64 a0_2, .int .i64 a0_3]) (t := 27) ?hr ?_; (case hd => rfl); (case hg => rfl); (case hr => first | (go_simp; done) | (go_simp; rfl)); intro gb115 hg w28 hbox hb; have n0_ := Aside0.mk (below_step (by repeat (first | (with_reducible first | exact HB.out | apply below_alloc | apply pw_below_drewN | apply below_drew1) | exact HB.out)) hb); have n1_ := Aside0.mk (hbox); have n2_ := Aside0.mk ((by rw [hg]; exact (below_size (by repeat (first | (with_reducible first | exact HB.out | apply below_alloc | apply pw_below_drewN | apply below_drew1) | exact HB.out))) : w.heap.size ≤ gb115)); have n3_ := Aside0.mk ((by rw [hg]; exact (below_size (by repeat (first | (with_reducible first | exact HB.out | apply below_alloc | apply pw_below_drewN | apply below_drew1) | exact HB.out))) : w.heap.size ≤ gb115)); clear HB; have HB := n0_; have BK115 := n1_; have GW115 := n2_; have GE115 := n3_; clear n0_ n1_ n2_ n3_; clear hb hbox hg) | ((with_reducible refine gate_dst (N := 3) rfl ?_); refine box_event ?hg (N := 3) ?hd (cs := #[.int .i64 a1_0, .int .i64 a1_1, .int .i64 a1_2, .int .i64 a1_3]) (t := 27) ?hr ?_; (case hd => rfl); (case hg => rfl); (case hr => first | (go_simp; done) | (go_simp; rfl)); intro gb116 hg w29 hbox hb; have n0_ := Aside0.mk (blk_below (g := gb115) (o := .cells #[.int .i64 a0_0, .int .i64 a0_1, .int .i64 a0_2, .int .i64 a0_3] 27 (0, 0)) (by (with_reducible repeat (first | refine blk_drewN ?_ _ | refine blk_drew ?_ | refine blk_alloc ?_ _)); exact BK115.out) hb); have n1_ := Aside0.mk (below_step (by repeat (first | (with_reducible first | exact HB.out | apply below_alloc | apply pw_below_drewN | apply below_drew1 | refine below_set ?_ GE115.out) | exact HB.out)) hb); have n2_ := Aside0.mk (hbox); have n3_ := Aside0.mk ((by rw [hg]; exact (below_size (by repeat (first | (with_reducible first | exact HB.out | apply below_alloc | apply pw_below_drewN | apply below_drew1 | refine below_set ?_ GE115.out) | exact HB.out))) : w.heap.size ≤ gb116)); have n4_ := Aside0.mk ((by rw [hg]; exact (below_size (by repeat (first | (with_reducible first | exact HB.out | apply below_alloc | apply pw_below_drewN | apply below_drew1 | refine below_set ?_ GE115.out) | exact HB.out))) : w.heap.size ≤ gb116)); have n5_ := Aside0.mk ((by rw [hg]; exact Nat.ne_of_lt (blk_lt (g := gb115) (o := .cells #[.int .i64 a0_0, .int .i64 a0_1, .int .i64 a0_2, .int .i64 a0_3] 27 (0, 0)) (by (with_reducible repeat (first | refine blk_drewN ?_ _ | refine blk_drew ?_ | refine blk_alloc ?_ _)); exact BK115.out)) : gb115 ≠ gb116)); have n6_ := Aside0.mk ((by rw [hg]; exact Nat.ne_of_gt (blk_lt (g := gb115) (o := .cells #[.int .i64 a0_0, .int .i64 a0_1, .int .i64 a0_2, .int .i64 a0_3] 27 (0, 0)) (by (with_reducible repeat (first | refine blk_drewN ?_ _ | refine blk_drew ?_ | refine blk_alloc ?_ _)); exact BK115.out)) : gb116 ≠ gb115)); clear BK115; clear HB; have BK115 := n0_; have HB := n1_; have BK116 := n2_; have GW116 := n3_; have GE116 := n4_; have NB115_116 := n5_; have NB116_115 := n6_; clear n0_ n1_ n2_ n3_ n4_ n5_ n6_; clear hb hbox hg; have hnb30 := NB115_116.out; have hnc30 := NB116_115.out; have hcz31_0 : w29.cell? ⟨gb115, 0, none⟩ = some (.int .i64 a0_0) := (blk_cell BK115.out 0).trans rfl; have hcz31_1 : w29.cell? ⟨gb115, 1, none⟩ = some (.int .i64 a0_1) := (blk_cell BK115.out 1).trans rfl; have hcz31_2 : w29.cell? ⟨gb115, 2, none⟩ = some (.int .i64 a0_2) := (blk_cell BK115.out 2).trans rfl; have hcz31_3 : w29.cell? ⟨gb115, 3, none⟩ = some (.int .i64 a0_3) := (blk_cell BK115.out 3).trans rfl; have hfz31_0 := blk_frozen BK115.out 0; have hfz31_1 := blk_frozen BK115.out 1; have hfz31_2 := blk_frozen BK115.out 2; have hfz31_3 := blk_frozen BK115.out 3) | ((with_reducible refine gate_callee (f := 13) rfl ?_); refine goesL_ (some 6) rfl rfl Tryd.func13 (by kernel_rfl) rfl #[.agg #[.int .i64 a0_0, .int .i64 a0_1, .int .i64 a0_2, .int .i64 a0_3]] rfl (by (try simp only [List.map_toArray, List.map_cons, List.map_nil]); first | done | rfl | (simp only [List.length_drop, List.length_take]; rfl)) ?_; (with_reducible refine (addr_Fine.calls a0_0 a0_1 a0_2 a0_3 true _ A3.out).mono ?_); rintro e w32 ⟨rfl, hb⟩; refine ⟨_, rfl, ?_⟩; have n0_ := Aside0.mk (blk_below (g := gb115) (o := .cells #[.int .i64 a0_0, .int .i64 a0_1, .int .i64 a0_2, .int .i64 a0_3] 27 (0, 0)) (by (with_reducible repeat (first | refine blk_drewN ?_ _ | refine blk_drew ?_ | refine blk_alloc ?_ _)); exact BK115.out) hb); have n1_ := Aside0.mk (blk_below (g := gb116) (o := .cells #[.int .i64 a1_0, .int .i64 a1_1, .int .i64 a1_2, .int .i64 a1_3] 27 (0, 0)) (by (with_reducible repeat (first | refine blk_drewN ?_ _ | refine blk_drew ?_ | refine blk_alloc ?_ _)); exact BK116.out) hb); have n2_ := Aside0.mk (below_step (by repeat (first | (with_reducible first | exact HB.out | apply below_alloc | apply pw_below_drewN | apply below_drew1 | refine below_set ?_ GE115.out | refine below_set ?_ GE116.out) | exact HB.out)) hb); clear BK115; clear BK116; clear HB; have BK115 := n0_; have BK116 := n1_; have HB := n2_; clear n0_ n1_ n2_; (try clear hb); (try clear hb2); (try clear hk); (try clear hi); have hcz33_0 : w32.cell? ⟨gb116, 0, none⟩ = some (.int .i64 a1_0) := (blk_cell BK116.out 0).trans rfl; have hcz33_1 : w32.cell? ⟨gb116, 1, none⟩ = some (.int .i64 a1_1) := (blk_cell BK116.out 1).trans rfl; have hcz33_2 : w32.cell? ⟨gb116, 2, none⟩ = some (.int .i64 a1_2) := (blk_cell BK116.out 2).trans rfl; have hcz33_3 : w32.cell? ⟨gb116, 3, none⟩ = some (.int .i64 a1_3) := (blk_cell BK116.out 3).trans rfl; have hfz33_0 := blk_frozen BK116.out 0; have hfz33_1 := blk_frozen BK116.out 1; have hfz33_2 := blk_frozen BK116.out 2; have hfz33_3 := blk_frozen BK116.out 3) | (go_at_call 13; (with_reducible refine (addr_Fine.calls a1_0 a1_1 a1_2 a1_3 true _ A5.out).mono ?_); rintro e w34 ⟨rfl, hb⟩; have n0_ := Aside0.mk (blk_below (g := gb115) (o := .cells #[.int .i64 a0_0, .int .i64 a0_1, .int .i64 a0_2, .int .i64 a0_3] 27 (0, 0)) (by (with_reducible repeat (first | refine blk_drewN ?_ _ | refine blk_drew ?_ | refine blk_alloc ?_ _)); exact BK115.out) hb); have n1_ := Aside0.mk (blk_below (g := gb116) (o := .cells #[.int .i64 a1_0, .int .i64 a1_1, .int .i64 a1_2, .int .i64 a1_3] 27 (0, 0)) (by (with_reducible repeat (first | refine blk_drewN ?_ _ | refine blk_drew ?_ | refine blk_alloc ?_ _)); exact BK116.out) hb); have n2_ := Aside0.mk (below_step (by repeat (first | (with_reducible first | exact HB.out | apply below_alloc | apply pw_below_drewN | apply below_drew1 | refine below_set ?_ GE115.out | refine below_set ?_ GE116.out) | exact HB.out)) hb); clear BK115; clear BK116; clear HB; have BK115 := n0_; have BK116 := n1_; have HB := n2_; clear n0_ n1_ n2_; (try clear hb); (try clear hb2); (try clear hk); (try clear hi); have hcz35_0 : w34.cell? ⟨gb115, 0, none⟩ = some (.int .i64 a0_0) := (blk_cell BK115.out 0).trans rfl; have hcz35_1 : w34.cell? ⟨gb115, 1, none⟩ = some (.int .i64 a0_1) := (blk_cell BK115.out 1).trans rfl; have hcz35_2 : w34.cell? ⟨gb115, 2, none⟩ = some (.int .i64 a0_2) := (blk_cell BK115.out 2).trans rfl; have hcz35_3 : w34.cell? ⟨gb115, 3, none⟩ = some (.int .i64 a0_3) := (blk_cell BK115.out 3).trans rfl; have hfz35_0 := blk_frozen BK115.out 0; have hfz35_1 := blk_frozen BK115.out 1; have hfz35_2 := blk_frozen BK115.out 2; have hfz35_3 := blk_frozen BK115.out 3; have hcz36_0 : w34.cell? ⟨gb116, 0, none⟩ = some (.int .i64 a1_0) := (blk_cell BK116.out 0).trans rfl; have hcz36_1 : w34.cell? ⟨gb116, 1, none⟩ = some (.int .i64 a1_1) := (blk_cell BK116.out 1).trans rfl; have hcz36_2 : w34.cell? ⟨gb116, 2, none⟩ = some (.int .i64 a1_2) := (blk_cell BK116.out 2).trans rfl; have hcz36_3 : w34.cell? ⟨gb116, 3, none⟩ = some (.int .i64 a1_3) := (blk_cell BK116.out 3).trans rfl; have hfz36_0 := blk_frozen BK116.out 0; have hfz36_1 := blk_frozen BK116.out 1; have hfz36_2 := blk_frozen BK116.out 2; have hfz36_3 := blk_frozen BK116.out 3))
          go_ret
          exact ⟨by first | rfl | (simp [errW_none, errW_some] <;> rfl) | (simp [*, errW_none, errW_some] <;> rfl), by repeat (first | (with_reducible first | exact HB.out | apply below_alloc | apply pw_below_drewN | apply below_drew1 | refine below_set ?_ GE115.out | refine below_set ?_ GE116.out) | exact HB.out)⟩
      · rw [if_neg c7] at H
        have c7b0 : decide (a0_0 ≤ a1_2) = false := decide_eq_false c7
        clear c7
        obtain rfl := Option.some.inj H
        go_enter Tryd.func8, Tryd.ntmps8
        go_wp2_with (first | ((with_reducible refine gate_dst (N := 2) rfl ?_); refine box_event ?hg (N := 2) ?hd (cs := #[.int .i64 a0_0, .int .i64 a0_1, .int .i64 a0_2, .int .i64 a0_3]) (t := 27) ?hr ?_; (case hd => rfl); (case hg => rfl); (case hr => first | (go_simp; done) | (go_simp; rfl)); intro gb115 hg w37 hbox hb; have n0_ := Aside0.mk (below_step (by repeat (first | (with_reducible first | exact HB.out | apply below_alloc | apply pw_below_drewN | apply below_drew1) | exact HB.out)) hb); have n1_ := Aside0.mk (hbox); have n2_ := Aside0.mk ((by rw [hg]; exact (below_size (by repeat (first | (with_reducible first | exact HB.out | apply below_alloc | apply pw_below_drewN | apply below_drew1) | exact HB.out))) : w.heap.size ≤ gb115)); have n3_ := Aside0.mk ((by rw [hg]; exact (below_size (by repeat (first | (with_reducible first | exact HB.out | apply below_alloc | apply pw_below_drewN | apply below_drew1) | exact HB.out))) : w.heap.size ≤ gb115)); clear HB; have HB := n0_; have BK115 := n1_; have GW115 := n2_; have GE115 := n3_; clear n0_ n1_ n2_ n3_; clear hb hbox hg) | ((with_reducible refine gate_dst (N := 3) rfl ?_); refine box_event ?hg (N := 3) ?hd (cs := #[.int .i64 a1_0, .int .i64 a1_1, .int .i64 a1_2, .int .i64 a1_3]) (t := 27) ?hr ?_; (case hd => rfl); (case hg => rfl); (case hr => first | (go_simp; done) | (go_simp; rfl)); intro gb116 hg w38 hbox hb; have n0_ := Aside0.mk (blk_below (g := gb115) (o := .cells #[.int .i64 a0_0, .int .i64 a0_1, .int .i64 a0_2, .int .i64 a0_3] 27 (0, 0)) (by (with_reducible repeat (first | refine blk_drewN ?_ _ | refine blk_drew ?_ | refine blk_alloc ?_ _)); exact BK115.out) hb); have n1_ := Aside0.mk (below_step (by repeat (first | (with_reducible first | exact HB.out | apply below_alloc | apply pw_below_drewN | apply below_drew1 | refine below_set ?_ GE115.out) | exact HB.out)) hb); have n2_ := Aside0.mk (hbox); have n3_ := Aside0.mk ((by rw [hg]; exact (below_size (by repeat (first | (with_reducible first | exact HB.out | apply below_alloc | apply pw_below_drewN | apply below_drew1 | refine below_set ?_ GE115.out) | exact HB.out))) : w.heap.size ≤ gb116)); have n4_ := Aside0.mk ((by rw [hg]; exact (below_size (by repeat (first | (with_reducible first | exact HB.out | apply below_alloc | apply pw_below_drewN | apply below_drew1 | refine below_set ?_ GE115.out) | exact HB.out))) : w.heap.size ≤ gb116)); have n5_ := Aside0.mk ((by rw [hg]; exact Nat.ne_of_lt (blk_lt (g := gb115) (o := .cells #[.int .i64 a0_0, .int .i64 a0_1, .int .i64 a0_2, .int .i64 a0_3] 27 (0, 0)) (by (with_reducible repeat (first | refine blk_drewN ?_ _ | refine blk_drew ?_ | refine blk_alloc ?_ _)); exact BK115.out)) : gb115 ≠ gb116)); have n6_ := Aside0.mk ((by rw [hg]; exact Nat.ne_of_gt (blk_lt (g := gb115) (o := .cells #[.int .i64 a0_0, .int .i64 a0_1, .int .i64 a0_2, .int .i64 a0_3] 27 (0, 0)) (by (with_reducible repeat (first | refine blk_drewN ?_ _ | refine blk_drew ?_ | refine blk_alloc ?_ _)); exact BK115.out)) : gb116 ≠ gb115)); clear BK115; clear HB; have BK115 := n0_; have HB := n1_; have BK116 := n2_; have GW116 := n3_; have GE116 := n4_; have NB115_116 := n5_; have NB116_115 := n6_; clear n0_ n1_ n2_ n3_ n4_ n5_ n6_; clear hb hbox hg; have hnb39 := NB115_116.out; have hnc39 := NB116_115.out; have hcz40_0 : w38.cell? ⟨gb115, 0, none⟩ = some (.int .i64 a0_0) := (blk_cell BK115.out 0).trans rfl; have hcz40_1 : w38.cell? ⟨gb115, 1, none⟩ = some (.int .i64 a0_1) := (blk_cell BK115.out 1).trans rfl; have hcz40_2 : w38.cell? ⟨gb115, 2, none⟩ = some (.int .i64 a0_2) := (blk_cell BK115.out 2).trans rfl; have hcz40_3 : w38.cell? ⟨gb115, 3, none⟩ = some (.int .i64 a0_3) := (blk_cell BK115.out 3).trans rfl; have hfz40_0 := blk_frozen BK115.out 0; have hfz40_1 := blk_frozen BK115.out 1; have hfz40_2 := blk_frozen BK115.out 2; have hfz40_3 := blk_frozen BK115.out 3) | ((with_reducible refine gate_callee (f := 13) rfl ?_); refine goesL_ (some 6) rfl rfl Tryd.func13 (by kernel_rfl) rfl #[.agg #[.int .i64 a0_0, .int .i64 a0_1, .int .i64 a0_2, .int .i64 a0_3]] rfl (by (try simp only [List.map_toArray, List.map_cons, List.map_nil]); first | done | rfl | (simp only [List.length_drop, List.length_take]; rfl)) ?_; (with_reducible refine (addr_Fine.calls a0_0 a0_1 a0_2 a0_3 true _ A3.out).mono ?_); rintro e w41 ⟨rfl, hb⟩; refine ⟨_, rfl, ?_⟩; have n0_ := Aside0.mk (blk_below (g := gb115) (o := .cells #[.int .i64 a0_0, .int .i64 a0_1, .int .i64 a0_2, .int .i64 a0_3] 27 (0, 0)) (by (with_reducible repeat (first | refine blk_drewN ?_ _ | refine blk_drew ?_ | refine blk_alloc ?_ _)); exact BK115.out) hb); have n1_ := Aside0.mk (blk_below (g := gb116) (o := .cells #[.int .i64 a1_0, .int .i64 a1_1, .int .i64 a1_2, .int .i64 a1_3] 27 (0, 0)) (by (with_reducible repeat (first | refine blk_drewN ?_ _ | refine blk_drew ?_ | refine blk_alloc ?_ _)); exact BK116.out) hb); have n2_ := Aside0.mk (below_step (by repeat (first | (with_reducible first | exact HB.out | apply below_alloc | apply pw_below_drewN | apply below_drew1 | refine below_set ?_ GE115.out | refine below_set ?_ GE116.out) | exact HB.out)) hb); clear BK115; clear BK116; clear HB; have BK115 := n0_; have BK116 := n1_; have HB := n2_; clear n0_ n1_ n2_; (try clear hb); (try clear hb2); (try clear hk); (try clear hi); have hcz42_0 : w41.cell? ⟨gb116, 0, none⟩ = some (.int .i64 a1_0) := (blk_cell BK116.out 0).trans rfl; have hcz42_1 : w41.cell? ⟨gb116, 1, none⟩ = some (.int .i64 a1_1) := (blk_cell BK116.out 1).trans rfl; have hcz42_2 : w41.cell? ⟨gb116, 2, none⟩ = some (.int .i64 a1_2) := (blk_cell BK116.out 2).trans rfl; have hcz42_3 : w41.cell? ⟨gb116, 3, none⟩ = some (.int .i64 a1_3) := (blk_cell BK116.out 3).trans rfl; have hfz42_0 := blk_frozen BK116.out 0; have hfz42_1 := blk_frozen BK116.out 1; have hfz42_2 := blk_frozen BK116.out 2; have hfz42_3 := blk_frozen BK116.out 3) | (go_at_call 13; (with_reducible refine (addr_Fine.calls a1_0 a1_1 a1_2 a1_3 true _ A5.out).mono ?_); rintro e w43 ⟨rfl, hb⟩; have n0_ := Aside0.mk (blk_below (g := gb115) (o := .cells #[.int .i64 a0_0, .int .i64 a0_1, .int .i64 a0_2, .int .i64 a0_3] 27 (0, 0)) (by (with_reducible repeat (first | refine blk_drewN ?_ _ | refine blk_drew ?_ | refine blk_alloc ?_ _)); exact BK115.out) hb); have n1_ := Aside0.mk (blk_below (g := gb116) (o := .cells #[.int .i64 a1_0, .int .i64 a1_1, .int .i64 a1_2, .int .i64 a1_3] 27 (0, 0)) (by (with_reducible repeat (first | refine blk_drewN ?_ _ | refine blk_drew ?_ | refine blk_alloc ?_ _)); exact BK116.out) hb); have n2_ := Aside0.mk (below_step (by repeat (first | (with_reducible first | exact HB.out | apply below_alloc | apply pw_below_drewN | apply below_drew1 | refine below_set ?_ GE115.out | refine below_set ?_ GE116.out) | exact HB.out)) hb); clear BK115; clear BK116; clear HB; have BK115 := n0_; have BK116 := n1_; have HB := n2_; clear n0_ n1_ n2_; (try clear hb); (try clear hb2); (try clear hk); (try clear hi); have hcz44_0 : w43.cell? ⟨gb115, 0, none⟩ = some (.int .i64 a0_0) := (blk_cell BK115.out 0).trans rfl; have hcz44_1 : w43.cell? ⟨gb115, 1, none⟩ = some (.int .i64 a0_1) := (blk_cell BK115.out 1).trans rfl; have hcz44_2 : w43.cell? ⟨gb115, 2, none⟩ = some (.int .i64 a0_2) := (blk_cell BK115.out 2).trans rfl; have hcz44_3 : w43.cell? ⟨gb115, 3, none⟩ = some (.int .i64 a0_3) := (blk_cell BK115.out 3).trans rfl; have hfz44_0 := blk_frozen BK115.out 0; have hfz44_1 := blk_frozen BK115.out 1; have hfz44_2 := blk_frozen BK115.out 2; have hfz44_3 := blk_frozen BK115.out 3; have hcz45_0 : w43.cell? ⟨gb116, 0, none⟩ = some (.int .i64 a1_0) := (blk_cell BK116.out 0).trans rfl; have hcz45_1 : w43.cell? ⟨gb116, 1, none⟩ = some (.int .i64 a1_1) := (blk_cell BK116.out 1).trans rfl; have hcz45_2 : w43.cell? ⟨gb116, 2, none⟩ = some (.int .i64 a1_2) := (blk_cell BK116.out 2).trans rfl; have hcz45_3 : w43.cell? ⟨gb116, 3, none⟩ = some (.int .i64 a1_3) := (blk_cell BK116.out 3).trans rfl; have hfz45_0 := blk_frozen BK116.out 0; have hfz45_1 := blk_frozen BK116.out 1; have hfz45_2 := blk_frozen BK116.out 2; have hfz45_3 := blk_frozen BK116.out 3))
        go_ret
        exact ⟨by first | rfl | (simp [errW_none, errW_some] <;> rfl) | (simp [*, errW_none, errW_some] <;> rfl), by repeat (first | (with_reducible first | exact HB.out | apply below_alloc | apply pw_below_drewN | apply below_drew1 | refine below_set ?_ GE115.out | refine below_set ?_ GE116.out) | exact HB.out)⟩
    · replace c6 := Bool.eq_false_iff.mpr c6
      subst c6
      have H1 : (some false) = some r := by rw [if_neg (show ¬ (false = true) by decide)] at H; exact H
      clear H
      have H := H1
      clear H1
      obtain rfl := Option.some.inj H
      go_enter Tryd.func8, Tryd.ntmps8
      go_wp2_with (first | ((with_reducible refine gate_dst (N := 2) rfl ?_); refine box_event ?hg (N := 2) ?hd (cs := #[.int .i64 a0_0, .int .i64 a0_1, .int .i64 a0_2, .int .i64 a0_3]) (t := 27) ?hr ?_; (case hd => rfl); (case hg => rfl); (case hr => first | (go_simp; done) | (go_simp; rfl)); intro gb115 hg w46 hbox hb; have n0_ := Aside0.mk (below_step (by repeat (first | (with_reducible first | exact HB.out | apply below_alloc | apply pw_below_drewN | apply below_drew1) | exact HB.out)) hb); have n1_ := Aside0.mk (hbox); have n2_ := Aside0.mk ((by rw [hg]; exact (below_size (by repeat (first | (with_reducible first | exact HB.out | apply below_alloc | apply pw_below_drewN | apply below_drew1) | exact HB.out))) : w.heap.size ≤ gb115)); have n3_ := Aside0.mk ((by rw [hg]; exact (below_size (by repeat (first | (with_reducible first | exact HB.out | apply below_alloc | apply pw_below_drewN | apply below_drew1) | exact HB.out))) : w.heap.size ≤ gb115)); clear HB; have HB := n0_; have BK115 := n1_; have GW115 := n2_; have GE115 := n3_; clear n0_ n1_ n2_ n3_; clear hb hbox hg) | ((with_reducible refine gate_dst (N := 3) rfl ?_); refine box_event ?hg (N := 3) ?hd (cs := #[.int .i64 a1_0, .int .i64 a1_1, .int .i64 a1_2, .int .i64 a1_3]) (t := 27) ?hr ?_; (case hd => rfl); (case hg => rfl); (case hr => first | (go_simp; done) | (go_simp; rfl)); intro gb116 hg w47 hbox hb; have n0_ := Aside0.mk (blk_below (g := gb115) (o := .cells #[.int .i64 a0_0, .int .i64 a0_1, .int .i64 a0_2, .int .i64 a0_3] 27 (0, 0)) (by (with_reducible repeat (first | refine blk_drewN ?_ _ | refine blk_drew ?_ | refine blk_alloc ?_ _)); exact BK115.out) hb); have n1_ := Aside0.mk (below_step (by repeat (first | (with_reducible first | exact HB.out | apply below_alloc | apply pw_below_drewN | apply below_drew1 | refine below_set ?_ GE115.out) | exact HB.out)) hb); have n2_ := Aside0.mk (hbox); have n3_ := Aside0.mk ((by rw [hg]; exact (below_size (by repeat (first | (with_reducible first | exact HB.out | apply below_alloc | apply pw_below_drewN | apply below_drew1 | refine below_set ?_ GE115.out) | exact HB.out))) : w.heap.size ≤ gb116)); have n4_ := Aside0.mk ((by rw [hg]; exact (below_size (by repeat (first | (with_reducible first | exact HB.out | apply below_alloc | apply pw_below_drewN | apply below_drew1 | refine below_set ?_ GE115.out) | exact HB.out))) : w.heap.size ≤ gb116)); have n5_ := Aside0.mk ((by rw [hg]; exact Nat.ne_of_lt (blk_lt (g := gb115) (o := .cells #[.int .i64 a0_0, .int .i64 a0_1, .int .i64 a0_2, .int .i64 a0_3] 27 (0, 0)) (by (with_reducible repeat (first | refine blk_drewN ?_ _ | refine blk_drew ?_ | refine blk_alloc ?_ _)); exact BK115.out)) : gb115 ≠ gb116)); have n6_ := Aside0.mk ((by rw [hg]; exact Nat.ne_of_gt (blk_lt (g := gb115) (o := .cells #[.int .i64 a0_0, .int .i64 a0_1, .int .i64 a0_2, .int .i64 a0_3] 27 (0, 0)) (by (with_reducible repeat (first | refine blk_drewN ?_ _ | refine blk_drew ?_ | refine blk_alloc ?_ _)); exact BK115.out)) : gb116 ≠ gb115)); clear BK115; clear HB; have BK115 := n0_; have HB := n1_; have BK116 := n2_; have GW116 := n3_; have GE116 := n4_; have NB115_116 := n5_; have NB116_115 := n6_; clear n0_ n1_ n2_ n3_ n4_ n5_ n6_; clear hb hbox hg; have hnb48 := NB115_116.out; have hnc48 := NB116_115.out; have hcz49_0 : w47.cell? ⟨gb115, 0, none⟩ = some (.int .i64 a0_0) := (blk_cell BK115.out 0).trans rfl; have hcz49_1 : w47.cell? ⟨gb115, 1, none⟩ = some (.int .i64 a0_1) := (blk_cell BK115.out 1).trans rfl; have hcz49_2 : w47.cell? ⟨gb115, 2, none⟩ = some (.int .i64 a0_2) := (blk_cell BK115.out 2).trans rfl; have hcz49_3 : w47.cell? ⟨gb115, 3, none⟩ = some (.int .i64 a0_3) := (blk_cell BK115.out 3).trans rfl; have hfz49_0 := blk_frozen BK115.out 0; have hfz49_1 := blk_frozen BK115.out 1; have hfz49_2 := blk_frozen BK115.out 2; have hfz49_3 := blk_frozen BK115.out 3) | ((with_reducible refine gate_callee (f := 13) rfl ?_); refine goesL_ (some 6) rfl rfl Tryd.func13 (by kernel_rfl) rfl #[.agg #[.int .i64 a0_0, .int .i64 a0_1, .int .i64 a0_2, .int .i64 a0_3]] rfl (by (try simp only [List.map_toArray, List.map_cons, List.map_nil]); first | done | rfl | (simp only [List.length_drop, List.length_take]; rfl)) ?_; (with_reducible refine (addr_Fine.calls a0_0 a0_1 a0_2 a0_3 true _ A3.out).mono ?_); rintro e w50 ⟨rfl, hb⟩; refine ⟨_, rfl, ?_⟩; have n0_ := Aside0.mk (blk_below (g := gb115) (o := .cells #[.int .i64 a0_0, .int .i64 a0_1, .int .i64 a0_2, .int .i64 a0_3] 27 (0, 0)) (by (with_reducible repeat (first | refine blk_drewN ?_ _ | refine blk_drew ?_ | refine blk_alloc ?_ _)); exact BK115.out) hb); have n1_ := Aside0.mk (blk_below (g := gb116) (o := .cells #[.int .i64 a1_0, .int .i64 a1_1, .int .i64 a1_2, .int .i64 a1_3] 27 (0, 0)) (by (with_reducible repeat (first | refine blk_drewN ?_ _ | refine blk_drew ?_ | refine blk_alloc ?_ _)); exact BK116.out) hb); have n2_ := Aside0.mk (below_step (by repeat (first | (with_reducible first | exact HB.out | apply below_alloc | apply pw_below_drewN | apply below_drew1 | refine below_set ?_ GE115.out | refine below_set ?_ GE116.out) | exact HB.out)) hb); clear BK115; clear BK116; clear HB; have BK115 := n0_; have BK116 := n1_; have HB := n2_; clear n0_ n1_ n2_; (try clear hb); (try clear hb2); (try clear hk); (try clear hi); have hcz51_0 : w50.cell? ⟨gb116, 0, none⟩ = some (.int .i64 a1_0) := (blk_cell BK116.out 0).trans rfl; have hcz51_1 : w50.cell? ⟨gb116, 1, none⟩ = some (.int .i64 a1_1) := (blk_cell BK116.out 1).trans rfl; have hcz51_2 : w50.cell? ⟨gb116, 2, none⟩ = some (.int .i64 a1_2) := (blk_cell BK116.out 2).trans rfl; have hcz51_3 : w50.cell? ⟨gb116, 3, none⟩ = some (.int .i64 a1_3) := (blk_cell BK116.out 3).trans rfl; have hfz51_0 := blk_frozen BK116.out 0; have hfz51_1 := blk_frozen BK116.out 1; have hfz51_2 := blk_frozen BK116.out 2; have hfz51_3 := blk_frozen BK116.out 3) | (go_at_call 13; (with_reducible refine (addr_Fine.calls a1_0 a1_1 a1_2 a1_3 false _ A5.out).mono ?_); rintro e w52 ⟨rfl, hb⟩; have n0_ := Aside0.mk (blk_below (g := gb115) (o := .cells #[.int .i64 a0_0, .int .i64 a0_1, .int .i64 a0_2, .int .i64 a0_3] 27 (0, 0)) (by (with_reducible repeat (first | refine blk_drewN ?_ _ | refine blk_drew ?_ | refine blk_alloc ?_ _)); exact BK115.out) hb); have n1_ := Aside0.mk (blk_below (g := gb116) (o := .cells #[.int .i64 a1_0, .int .i64 a1_1, .int .i64 a1_2, .int .i64 a1_3] 27 (0, 0)) (by (with_reducible repeat (first | refine blk_drewN ?_ _ | refine blk_drew ?_ | refine blk_alloc ?_ _)); exact BK116.out) hb); have n2_ := Aside0.mk (below_step (by repeat (first | (with_reducible first | exact HB.out | apply below_alloc | apply pw_below_drewN | apply below_drew1 | refine below_set ?_ GE115.out | refine below_set ?_ GE116.out) | exact HB.out)) hb); clear BK115; clear BK116; clear HB; have BK115 := n0_; have BK116 := n1_; have HB := n2_; clear n0_ n1_ n2_; (try clear hb); (try clear hb2); (try clear hk); (try clear hi)))
      go_ret
      exact ⟨by first | rfl | (simp [errW_none, errW_some] <;> rfl) | (simp [*, errW_none, errW_some] <;> rfl), by repeat (first | (with_reducible first | exact HB.out | apply below_alloc | apply pw_below_drewN | apply below_drew1 | refine below_set ?_ GE115.out | refine below_set ?_ GE116.out) | exact HB.out)⟩
  · replace c4 := Bool.eq_false_iff.mpr c4
    subst c4
    have H1 : (some false) = some r := by rw [if_neg (show ¬ (false = true) by decide)] at H; exact H
    clear H
    have H := H1
    clear H1
    obtain rfl := Option.some.inj H
    go_enter Tryd.func8, Tryd.ntmps8
    go_wp2_with (first | ((with_reducible refine gate_dst (N := 2) rfl ?_); refine box_event ?hg (N := 2) ?hd (cs := #[.int .i64 a0_0, .int .i64 a0_1, .int .i64 a0_2, .int .i64 a0_3]) (t := 27) ?hr ?_; (case hd => rfl); (case hg => rfl); (case hr => first | (go_simp; done) | (go_simp; rfl)); intro gb115 hg w53 hbox hb; have n0_ := Aside0.mk (below_step (by repeat (first | (with_reducible first | exact HB.out | apply below_alloc | apply pw_below_drewN | apply below_drew1) | exact HB.out)) hb); have n1_ := Aside0.mk (hbox); have n2_ := Aside0.mk ((by rw [hg]; exact (below_size (by repeat (first | (with_reducible first | exact HB.out | apply below_alloc | apply pw_below_drewN | apply below_drew1) | exact HB.out))) : w.heap.size ≤ gb115)); have n3_ := Aside0.mk ((by rw [hg]; exact (below_size (by repeat (first | (with_reducible first | exact HB.out | apply below_alloc | apply pw_below_drewN | apply below_drew1) | exact HB.out))) : w.heap.size ≤ gb115)); clear HB; have HB := n0_; have BK115 := n1_; have GW115 := n2_; have GE115 := n3_; clear n0_ n1_ n2_ n3_; clear hb hbox hg) | ((with_reducible refine gate_dst (N := 3) rfl ?_); refine box_event ?hg (N := 3) ?hd (cs := #[.int .i64 a1_0, .int .i64 a1_1, .int .i64 a1_2, .int .i64 a1_3]) (t := 27) ?hr ?_; (case hd => rfl); (case hg => rfl); (case hr => first | (go_simp; done) | (go_simp; rfl)); intro gb116 hg w54 hbox hb; have n0_ := Aside0.mk (blk_below (g := gb115) (o := .cells #[.int .i64 a0_0, .int .i64 a0_1, .int .i64 a0_2, .int .i64 a0_3] 27 (0, 0)) (by (with_reducible repeat (first | refine blk_drewN ?_ _ | refine blk_drew ?_ | refine blk_alloc ?_ _)); exact BK115.out) hb); have n1_ := Aside0.mk (below_step (by repeat (first | (with_reducible first | exact HB.out | apply below_alloc | apply pw_below_drewN | apply below_drew1 | refine below_set ?_ GE115.out) | exact HB.out)) hb); have n2_ := Aside0.mk (hbox); have n3_ := Aside0.mk ((by rw [hg]; exact (below_size (by repeat (first | (with_reducible first | exact HB.out | apply below_alloc | apply pw_below_drewN | apply below_drew1 | refine below_set ?_ GE115.out) | exact HB.out))) : w.heap.size ≤ gb116)); have n4_ := Aside0.mk ((by rw [hg]; exact (below_size (by repeat (first | (with_reducible first | exact HB.out | apply below_alloc | apply pw_below_drewN | apply below_drew1 | refine below_set ?_ GE115.out) | exact HB.out))) : w.heap.size ≤ gb116)); have n5_ := Aside0.mk ((by rw [hg]; exact Nat.ne_of_lt (blk_lt (g := gb115) (o := .cells #[.int .i64 a0_0, .int .i64 a0_1, .int .i64 a0_2, .int .i64 a0_3] 27 (0, 0)) (by (with_reducible repeat (first | refine blk_drewN ?_ _ | refine blk_drew ?_ | refine blk_alloc ?_ _)); exact BK115.out)) : gb115 ≠ gb116)); have n6_ := Aside0.mk ((by rw [hg]; exact Nat.ne_of_gt (blk_lt (g := gb115) (o := .cells #[.int .i64 a0_0, .int .i64 a0_1, .int .i64 a0_2, .int .i64 a0_3] 27 (0, 0)) (by (with_reducible repeat (first | refine blk_drewN ?_ _ | refine blk_drew ?_ | refine blk_alloc ?_ _)); exact BK115.out)) : gb116 ≠ gb115)); clear BK115; clear HB; have BK115 := n0_; have HB := n1_; have BK116 := n2_; have GW116 := n3_; have GE116 := n4_; have NB115_116 := n5_; have NB116_115 := n6_; clear n0_ n1_ n2_ n3_ n4_ n5_ n6_; clear hb hbox hg; have hnb55 := NB115_116.out; have hnc55 := NB116_115.out; have hcz56_0 : w54.cell? ⟨gb115, 0, none⟩ = some (.int .i64 a0_0) := (blk_cell BK115.out 0).trans rfl; have hcz56_1 : w54.cell? ⟨gb115, 1, none⟩ = some (.int .i64 a0_1) := (blk_cell BK115.out 1).trans rfl; have hcz56_2 : w54.cell? ⟨gb115, 2, none⟩ = some (.int .i64 a0_2) := (blk_cell BK115.out 2).trans rfl; have hcz56_3 : w54.cell? ⟨gb115, 3, none⟩ = some (.int .i64 a0_3) := (blk_cell BK115.out 3).trans rfl; have hfz56_0 := blk_frozen BK115.out 0; have hfz56_1 := blk_frozen BK115.out 1; have hfz56_2 := blk_frozen BK115.out 2; have hfz56_3 := blk_frozen BK115.out 3) | ((with_reducible refine gate_callee (f := 13) rfl ?_); refine goesL_ (some 6) rfl rfl Tryd.func13 (by kernel_rfl) rfl #[.agg #[.int .i64 a0_0, .int .i64 a0_1, .int .i64 a0_2, .int .i64 a0_3]] rfl (by (try simp only [List.map_toArray, List.map_cons, List.map_nil]); first | done | rfl | (simp only [List.length_drop, List.length_take]; rfl)) ?_; (with_reducible refine (addr_Fine.calls a0_0 a0_1 a0_2 a0_3 false _ A3.out).mono ?_); rintro e w57 ⟨rfl, hb⟩; refine ⟨_, rfl, ?_⟩; have n0_ := Aside0.mk (blk_below (g := gb115) (o := .cells #[.int .i64 a0_0, .int .i64 a0_1, .int .i64 a0_2, .int .i64 a0_3] 27 (0, 0)) (by (with_reducible repeat (first | refine blk_drewN ?_ _ | refine blk_drew ?_ | refine blk_alloc ?_ _)); exact BK115.out) hb); have n1_ := Aside0.mk (blk_below (g := gb116) (o := .cells #[.int .i64 a1_0, .int .i64 a1_1, .int .i64 a1_2, .int .i64 a1_3] 27 (0, 0)) (by (with_reducible repeat (first | refine blk_drewN ?_ _ | refine blk_drew ?_ | refine blk_alloc ?_ _)); exact BK116.out) hb); have n2_ := Aside0.mk (below_step (by repeat (first | (with_reducible first | exact HB.out | apply below_alloc | apply pw_below_drewN | apply below_drew1 | refine below_set ?_ GE115.out | refine below_set ?_ GE116.out) | exact HB.out)) hb); clear BK115; clear BK116; clear HB; have BK115 := n0_; have BK116 := n1_; have HB := n2_; clear n0_ n1_ n2_; (try clear hb); (try clear hb2); (try clear hk); (try clear hi)))
    go_ret
    exact ⟨by first | rfl | (simp [errW_none, errW_some] <;> rfl) | (simp [*, errW_none, errW_some] <;> rfl), by repeat (first | (with_reducible first | exact HB.out | apply below_alloc | apply pw_below_drewN | apply below_drew1 | refine below_set ?_ GE115.out | refine below_set ?_ GE116.out) | exact HB.out)⟩

end Go.Proofs.YtmhjnkeflbklpaaDoor.P

/- Rectangles: what the program makes of them. -/
namespace Go.Proofs.YtmhjnkeflbklpaaDoor.P
open Go.RowKit Go.Proofs.YtmhjnkeflbklpaaDoorW.PrintWords Go.Proofs.YtmhjnkeflbklpaaDoorW.PrintLast Go.Proofs.YtmhjnkeflbklpaaDoorW.PrintMore
open M (fit I64 u64w dig itoaF)
set_option linter.unusedVariables false
set_option linter.unusedSimpArgs false

def fineB (x y z u : Int) : Bool := cellB x y && cellB z u && decide (x ≤ z) && decide (y ≤ u)
theorem fine_eq (x y z u : Int) : addr_Fine.f x y z u = some (fineB x y z u) := by
  unfold addr_Fine.f fineB
  rw [good_eq, Option.bind_some, good_eq, Option.bind_some]
  by_cases h1 : cellB x y = true <;> by_cases h2 : cellB z u = true <;> by_cases h3 : x ≤ z <;> simp [h1, h2, h3]
def hasB (x y z u r c : Int) : Bool := fineB x y z u && decide (x ≤ r) && decide (r ≤ z) && decide (y ≤ c) && decide (c ≤ u)
theorem has_eq (x y z u r c : Int) : addr_Has.f x y z u r c = some (hasB x y z u r c) := by
  unfold addr_Has.f hasB
  rw [fine_eq, Option.bind_some]
  by_cases h1 : fineB x y z u = true <;> by_cases h2 : x ≤ r <;> by_cases h3 : r ≤ z <;> by_cases h4 : y ≤ c <;> simp [h1, h2, h3, h4]
def meetB (x y z u x' y' z' u' : Int) : Bool := fineB x y z u && fineB x' y' z' u' && decide (x ≤ z') && decide (x' ≤ z) && decide (y ≤ u') && decide (y' ≤ u)
theorem meet_eq (x y z u x' y' z' u' : Int) : addr_Meet.f x y z u x' y' z' u' = some (meetB x y z u x' y' z' u') := by
  unfold addr_Meet.f meetB
  rw [fine_eq, Option.bind_some, fine_eq, Option.bind_some]
  by_cases h1 : fineB x y z u = true <;> by_cases h2 : fineB x' y' z' u' = true <;> by_cases h3 : x ≤ z' <;> by_cases h4 : x' ≤ z <;> by_cases h5 : y ≤ u' <;> simp [h1, h2, h3, h4, h5]
def countS (x y z u : Int) : Int := if fineB x y z u = true then (z - x + 1) * (u - y + 1) else 0
theorem fineB_iff (x y z u : Int) : fineB x y z u = true ↔ (1 ≤ x ∧ x ≤ z ∧ z ≤ 1000 ∧ 1 ≤ y ∧ y ≤ u ∧ u ≤ 50) := by
  unfold fineB
  simp [cellB_iff]
  constructor
  · rintro ⟨⟨⟨h1, h2⟩, h3⟩, h4⟩; omega
  · rintro h; exact ⟨⟨⟨by omega, by omega⟩, by omega⟩, by omega⟩
theorem count_eq (x y z u : Int) : addr_Count.f x y z u = some (countS x y z u) := by
  unfold addr_Count.f countS
  rw [fine_eq, Option.bind_some]
  by_cases h : fineB x y z u = true
  · rw [if_pos h, if_pos h]
    have hf := (fineB_iff x y z u).1 h
    rw [M.wrap64_id (n := z - x) (by unfold I64; omega), M.wrap64_id (n := u - y) (by unfold I64; omega), M.wrap64_id (n := z - x + 1) (by unfold I64; omega), M.wrap64_id (n := u - y + 1) (by unfold I64; omega)]
    have h1 : 0 ≤ (z - x + 1) * (u - y + 1) := Int.mul_nonneg (by omega) (by omega)
    have h2 : (z - x + 1) * (u - y + 1) ≤ 1000 * 50 := Int.mul_le_mul (by omega) (by omega) (by omega) (by omega)
    rw [M.wrap64_id (by unfold I64; omega)]
  · rw [if_neg h, if_neg h]
def madeS (x y z u : Int) : Int × Int × Int × Int × Bool := if cellB x y = true ∧ cellB z u = true then (mn x z, mn y u, mx x z, mx y u, true) else (0, 0, 0, 0, false)
theorem made_eq (x y z u : Int) : addr_Made.f x y z u = some (madeS x y z u) := by
  unfold addr_Made.f madeS
  rw [good_eq, Option.bind_some, good_eq, Option.bind_some]
  by_cases h1 : cellB x y = true <;> by_cases h2 : cellB z u = true <;> simp [h1, h2]
end Go.Proofs.YtmhjnkeflbklpaaDoor.P

/- AddrMeets: the walk. -/
namespace Go.Proofs.YtmhjnkeflbklpaaDoor.P
open Go.RowKit Go.Proofs.YtmhjnkeflbklpaaDoorW.PrintWords Go.Proofs.YtmhjnkeflbklpaaDoorW.PrintLast Go.Proofs.YtmhjnkeflbklpaaDoorW.PrintMore
open M (fit I64 u64w dig itoaF)
set_option linter.unusedVariables false
set_option linter.unusedSimpArgs false

/-- How many of the first m of a row lie from a to b. -/
def upto (m a b : Int) : Int := if m < a then 0 else if m ≤ b then m - a + 1 else b - a + 1
def row8 (l : List Int) : Array Value := (l.map fun a => Value.int .i64 a).toArray
/-- Some cell ahead of (X, Y) lies in both. -/
def Both (x y z u x' y' z' u' : Int) (X Y : Int) : Prop := ∃ p q : Int, 1 ≤ p ∧ 1 ≤ q ∧ q ≤ 9 ∧ (p < X ∨ (p = X ∧ q < Y)) ∧ hasB x y z u p q = true ∧ hasB x' y' z' u' p q = true
theorem both_start (x y z u x' y' z' u' : Int) : false = true ↔ Both x y z u x' y' z' u' 1 1 := by
  constructor
  · intro h; cases h
  · rintro ⟨p, q, h1, h2, h3, h4, -, -⟩; omega
theorem both_step {x y z u x' y' z' u' X Y : Int} (hX : 1 ≤ X) (hY : 1 ≤ Y) (hY' : Y ≤ 9) {B : Bool} (h : B = true ↔ Both x y z u x' y' z' u' X Y) :
    (B || (hasB x y z u X Y && hasB x' y' z' u' X Y)) = true ↔ Both x y z u x' y' z' u' X (Y + 1) := by
  rw [Bool.or_eq_true, Bool.and_eq_true, h]
  constructor
  · rintro (⟨p, q, h1, h2, h3, h4, h5, h6⟩ | ⟨h5, h6⟩)
    · exact ⟨p, q, h1, h2, h3, by omega, h5, h6⟩
    · exact ⟨X, Y, hX, hY, hY', .inr ⟨rfl, by omega⟩, h5, h6⟩
  · rintro ⟨p, q, h1, h2, h3, h4, h5, h6⟩
    by_cases e : p = X ∧ q = Y
    · obtain ⟨rfl, rfl⟩ := e; exact .inr ⟨h5, h6⟩
    · exact .inl ⟨p, q, h1, h2, h3, by omega, h5, h6⟩
theorem both_row {x y z u x' y' z' u' X : Int} {B : Bool} (h : B = true ↔ Both x y z u x' y' z' u' X 10) : B = true ↔ Both x y z u x' y' z' u' (X + 1) 1 := by
  rw [h]
  constructor
  · rintro ⟨p, q, h1, h2, h3, h4, h5, h6⟩; exact ⟨p, q, h1, h2, h3, by omega, h5, h6⟩
  · rintro ⟨p, q, h1, h2, h3, h4, h5, h6⟩; exact ⟨p, q, h1, h2, h3, by omega, h5, h6⟩
theorem hasB_iff (x y z u p q : Int) : hasB x y z u p q = true ↔ (fineB x y z u = true ∧ x ≤ p ∧ p ≤ z ∧ y ≤ q ∧ q ≤ u) := by unfold hasB; simp [and_assoc]
theorem both_end {x y z u x' y' z' u' : Int} (h : 1 ≤ x ∧ x ≤ z ∧ z ≤ 9 ∧ 1 ≤ y ∧ y ≤ u ∧ u ≤ 9) (h' : 1 ≤ x' ∧ x' ≤ z' ∧ z' ≤ 9 ∧ 1 ≤ y' ∧ y' ≤ u' ∧ u' ≤ 9) :
    meetB x y z u x' y' z' u' = true ↔ Both x y z u x' y' z' u' 10 1 := by
  have f := (fineB_iff x y z u).2 (by omega)
  have f' := (fineB_iff x' y' z' u').2 (by omega)
  unfold meetB Both
  simp only [hasB_iff, f, f', Bool.and_eq_true, decide_eq_true_eq, true_and, and_assoc]
  constructor
  · rintro ⟨h1, h2, h3, h4⟩
    refine ⟨if x ≤ x' then x' else x, if y ≤ y' then y' else y, ?_⟩
    split <;> split <;> omega
  · rintro ⟨p, q, h1, h2, h3, h4, h5, h6, h7, h8, h9, h10, h11, h12⟩; omega
theorem meet_turn (x y z u x' y' z' u' : Int) : meetB x' y' z' u' x y z u = meetB x y z u x' y' z' u' := by
  rw [Bool.eq_iff_iff]; unfold meetB; simp only [Bool.and_eq_true, decide_eq_true_eq]; constructor <;> rintro ⟨⟨⟨⟨⟨h1, h2⟩, h3⟩, h4⟩, h5⟩, h6⟩ <;> exact ⟨⟨⟨⟨⟨h2, h1⟩, h4⟩, h3⟩, h6⟩, h5⟩
/-- How many cells ahead of (X, Y) a rectangle has. -/
def cellsN (x y z u X Y : Int) : Int := upto (X - 1) x z * upto 9 y u + (if x ≤ X ∧ X ≤ z then upto (Y - 1) y u else 0)
theorem cells_start {x y z u : Int} (h : 1 ≤ x ∧ x ≤ z ∧ z ≤ 9 ∧ 1 ≤ y ∧ y ≤ u ∧ u ≤ 9) : (0 : Int) = cellsN x y z u 1 1 := by
  unfold cellsN upto
  rw [if_pos (by omega), Int.zero_mul]
  split
  · rw [if_pos (by omega)]; rfl
  · rfl
theorem cells_step {x y z u X Y n : Int} (h : 1 ≤ x ∧ x ≤ z ∧ z ≤ 9 ∧ 1 ≤ y ∧ y ≤ u ∧ u ≤ 9) (hn : n = cellsN x y z u X Y) : (if hasB x y z u X Y = true then n + 1 else n) = cellsN x y z u X (Y + 1) := by
  have f := (fineB_iff x y z u).2 (by omega)
  rw [hn]
  unfold cellsN
  generalize upto (X - 1) x z * upto 9 y u = N
  by_cases e : x ≤ X ∧ X ≤ z
  · rw [if_pos e, if_pos e]
    unfold upto
    by_cases g : y ≤ Y ∧ Y ≤ u
    · rw [if_pos ((hasB_iff _ _ _ _ _ _).2 ⟨f, e.1, e.2, g.1, g.2⟩)]
      repeat' split
      all_goals omega
    · rw [if_neg (fun hh => g ⟨((hasB_iff _ _ _ _ _ _).1 hh).2.2.2.1, ((hasB_iff _ _ _ _ _ _).1 hh).2.2.2.2⟩)]
      repeat' split
      all_goals omega
  · rw [if_neg e, if_neg e, if_neg (fun hh => e ⟨((hasB_iff _ _ _ _ _ _).1 hh).2.1, ((hasB_iff _ _ _ _ _ _).1 hh).2.2.1⟩)]
theorem cells_row {x y z u X n : Int} (h : 1 ≤ x ∧ x ≤ z ∧ z ≤ 9 ∧ 1 ≤ y ∧ y ≤ u ∧ u ≤ 9) (hn : n = cellsN x y z u X 10) : n = cellsN x y z u (X + 1) 1 := by
  rw [hn]
  unfold cellsN
  have e1 : upto (1 - 1) y u = 0 := by unfold upto; rw [if_pos (by omega)]
  rw [e1, show X + 1 - 1 = X by omega, show (10 : Int) - 1 = 9 by omega, ite_self, Int.add_zero]
  generalize upto 9 y u = W
  by_cases e : x ≤ X ∧ X ≤ z
  · rw [if_pos e, show upto X x z = upto (X - 1) x z + 1 by unfold upto; repeat' split; all_goals omega, Int.add_mul, Int.one_mul]
  · rw [if_neg e, show upto X x z = upto (X - 1) x z by unfold upto; repeat' split; all_goals omega, Int.add_zero]
theorem upto_all {a b : Int} (h : 1 ≤ a ∧ a ≤ b ∧ b ≤ 9) : upto 9 a b = b - a + 1 := by
  unfold upto
  rw [if_neg (by omega)]
  split <;> omega
theorem cells_end {x y z u n : Int} (h : 1 ≤ x ∧ x ≤ z ∧ z ≤ 9 ∧ 1 ≤ y ∧ y ≤ u ∧ u ≤ 9) (hn : n = cellsN x y z u 10 1) : countS x y z u = n := by
  have f := (fineB_iff x y z u).2 (by omega)
  rw [hn]
  unfold cellsN countS
  rw [if_pos f, show (10 : Int) - 1 = 9 by omega, upto_all (by omega), upto_all (by omega), if_neg (by omega), Int.add_zero]
theorem made_ok {a b c d : Int} (ha : 1 ≤ a ∧ a ≤ 9) (hb : 1 ≤ b ∧ b ≤ 9) (hc : 1 ≤ c ∧ c ≤ 9) (hd : 1 ≤ d ∧ d ≤ 9) :
    ∃ x y z u : Int, addr_Made.f a b c d = some (x, y, z, u, true) ∧ 1 ≤ x ∧ x ≤ z ∧ z ≤ 9 ∧ 1 ≤ y ∧ y ≤ u ∧ u ≤ 9 := by
  have h1 : cellB a b = true := (cellB_iff a b).2 (by omega)
  have h2 : cellB c d = true := (cellB_iff c d).2 (by omega)
  refine ⟨mn a c, mn b d, mx a c, mx b d, ?_, ?_⟩
  · rw [made_eq]; unfold madeS; rw [if_pos ⟨h1, h2⟩]
  · unfold mn mx; repeat' split
    all_goals omega
set_option maxHeartbeats 2000000 in
set_option maxRecDepth 100000 in
theorem AddrMeets.calls (a0 a1 a2 a3 a4 a5 a6 a7 : Int) (w : World) (hG : G1 w)
    (h0 : 0 ≤ a0 ∧ a0 ≤ 255) (h1 : 0 ≤ a1 ∧ a1 ≤ 255) (h2 : 0 ≤ a2 ∧ a2 ≤ 255) (h3 : 0 ≤ a3 ∧ a3 ≤ 255) (h4 : 0 ≤ a4 ∧ a4 ≤ 255) (h5 : 0 ≤ a5 ∧ a5 ≤ 255) (h6 : 0 ≤ a6 ∧ a6 ≤ 255) (h7 : 0 ≤ a7 ∧ a7 ≤ 255) :
    Calls Tryd.prog 3 #[.agg #[.int .u8 a0, .int .u8 a1, .int .u8 a2, .int .u8 a3, .int .u8 a4, .int .u8 a5, .int .u8 a6, .int .u8 a7]] w fun e w' => e = .returned (.bool true) ∧ Below w.heap.size w w' := by
  have hu37 := Tryd.underlying22
  have hu38 := Tryd.underlying23
  have HG := Lib.hid hG
  clear hG
  go_enter Tryd.func3, Tryd.ntmps3
  go_wp2_with fail
  go_loopw [4] (fun i wr => ∃ k : Nat, k ≤ 8 ∧ i = .int .i64 k ∧ wr.heap[w.heap.size]? = some (.cells #[.int .u8 a0, .int .u8 a1, .int .u8 a2, .int .u8 a3, .int .u8 a4, .int .u8 a5, .int .u8 a6, .int .u8 a7] 22 (0, 0)) ∧
      wr.heap[w.heap.size + 1]? = some (.cells (row8 (([a0, a1, a2, a3, a4, a5, a6, a7].map fun a => 1 + a % 9).take k ++ List.replicate (8 - k) 0)) 23 (0, 0)) ∧ Below w.heap.size w wr)
    (fun i _ => 8 - (intOf i).toNat)
  case atStart =>
    refine ⟨0, by omega, rfl, ?_, ?_, ?_⟩
    · exact blk_alloc (blk_new _ _) _
    · have := blk_new (w.alloc (.cells #[.int .u8 a0, .int .u8 a1, .int .u8 a2, .int .u8 a3, .int .u8 a4, .int .u8 a5, .int .u8 a6, .int .u8 a7] 22)) (.cells #[.int .i64 0, .int .i64 0, .int .i64 0, .int .i64 0, .int .i64 0, .int .i64 0, .int .i64 0, .int .i64 0] 23)
      rw [show row8 (([a0, a1, a2, a3, a4, a5, a6, a7].map fun a => 1 + a % 9).take 0 ++ List.replicate (8 - 0) 0) = #[.int .i64 0, .int .i64 0, .int .i64 0, .int .i64 0, .int .i64 0, .int .i64 0, .int .i64 0, .int .i64 0] from rfl]
      simpa using this
    · exact ((Below.refl _ w).alloc (Nat.le_refl _) _).alloc (by simp) _
  case round =>
    obtain ⟨k, hk, rfl, hb0, hb1, hbel⟩ := hrel
    have HBEL := Lib.hid hbel
    have hc : k = 0 ∨ k = 1 ∨ k = 2 ∨ k = 3 ∨ k = 4 ∨ k = 5 ∨ k = 6 ∨ k = 7 ∨ k = 8 := by omega
    rcases hc with rfl | rfl | rfl | rfl | rfl | rfl | rfl | rfl | rfl
    · have c0 : wr.cell? ⟨w.heap.size, 0, none⟩ = some (.int .u8 a0) := (blk_cell hb0 0).trans rfl
      have f0 := blk_frozen hb1 0
      have q0 : wr.cell? ⟨w.heap.size + 1, 0, none⟩ = some (.int .i64 0) := (blk_cell hb1 0).trans rfl
      have B0 := Lib.hid hb0
      have B1 := Lib.hid hb1
      clear hb0 hb1 hbel hk
      go_wp2_with fail
      go_roundw
      case rel =>
        refine ⟨1, by omega, rfl, ?_, ?_, ?_⟩
        · exact blk_far B0.out (by simp) _
        · exact blk_put B1.out 0 _ (by rfl)
        · exact below_set HBEL.out (by omega)
      case measure => simp [intOf]
    · have c0 : wr.cell? ⟨w.heap.size, 1, none⟩ = some (.int .u8 a1) := (blk_cell hb0 1).trans rfl
      have f0 := blk_frozen hb1 1
      have q0 : wr.cell? ⟨w.heap.size + 1, 1, none⟩ = some (.int .i64 0) := (blk_cell hb1 1).trans rfl
      have B0 := Lib.hid hb0
      have B1 := Lib.hid hb1
      clear hb0 hb1 hbel hk
      go_wp2_with fail
      go_roundw
      case rel =>
        refine ⟨2, by omega, rfl, ?_, ?_, ?_⟩
        · exact blk_far B0.out (by simp) _
        · exact blk_put B1.out 1 _ (by rfl)
        · exact below_set HBEL.out (by omega)
      case measure => simp [intOf]
    · have c0 : wr.cell? ⟨w.heap.size, 2, none⟩ = some (.int .u8 a2) := (blk_cell hb0 2).trans rfl
      have f0 := blk_frozen hb1 2
      have q0 : wr.cell? ⟨w.heap.size + 1, 2, none⟩ = some (.int .i64 0) := (blk_cell hb1 2).trans rfl
      have B0 := Lib.hid hb0
      have B1 := Lib.hid hb1
      clear hb0 hb1 hbel hk
      go_wp2_with fail
      go_roundw
      case rel =>
        refine ⟨3, by omega, rfl, ?_, ?_, ?_⟩
        · exact blk_far B0.out (by simp) _
        · exact blk_put B1.out 2 _ (by rfl)
        · exact below_set HBEL.out (by omega)
      case measure => simp [intOf]
    · have c0 : wr.cell? ⟨w.heap.size, 3, none⟩ = some (.int .u8 a3) := (blk_cell hb0 3).trans rfl
      have f0 := blk_frozen hb1 3
      have q0 : wr.cell? ⟨w.heap.size + 1, 3, none⟩ = some (.int .i64 0) := (blk_cell hb1 3).trans rfl
      have B0 := Lib.hid hb0
      have B1 := Lib.hid hb1
      clear hb0 hb1 hbel hk
      go_wp2_with fail
      go_roundw
      case rel =>
        refine ⟨4, by omega, rfl, ?_, ?_, ?_⟩
        · exact blk_far B0.out (by simp) _
        · exact blk_put B1.out 3 _ (by rfl)
        · exact below_set HBEL.out (by omega)
      case measure => simp [intOf]
    · have c0 : wr.cell? ⟨w.heap.size, 4, none⟩ = some (.int .u8 a4) := (blk_cell hb0 4).trans rfl
      have f0 := blk_frozen hb1 4
      have q0 : wr.cell? ⟨w.heap.size + 1, 4, none⟩ = some (.int .i64 0) := (blk_cell hb1 4).trans rfl
      have B0 := Lib.hid hb0
      have B1 := Lib.hid hb1
      clear hb0 hb1 hbel hk
      go_wp2_with fail
      go_roundw
      case rel =>
        refine ⟨5, by omega, rfl, ?_, ?_, ?_⟩
        · exact blk_far B0.out (by simp) _
        · exact blk_put B1.out 4 _ (by rfl)
        · exact below_set HBEL.out (by omega)
      case measure => simp [intOf]
    · have c0 : wr.cell? ⟨w.heap.size, 5, none⟩ = some (.int .u8 a5) := (blk_cell hb0 5).trans rfl
      have f0 := blk_frozen hb1 5
      have q0 : wr.cell? ⟨w.heap.size + 1, 5, none⟩ = some (.int .i64 0) := (blk_cell hb1 5).trans rfl
      have B0 := Lib.hid hb0
      have B1 := Lib.hid hb1
      clear hb0 hb1 hbel hk
      go_wp2_with fail
      go_roundw
      case rel =>
        refine ⟨6, by omega, rfl, ?_, ?_, ?_⟩
        · exact blk_far B0.out (by simp) _
        · exact blk_put B1.out 5 _ (by rfl)
        · exact below_set HBEL.out (by omega)
      case measure => simp [intOf]
    · have c0 : wr.cell? ⟨w.heap.size, 6, none⟩ = some (.int .u8 a6) := (blk_cell hb0 6).trans rfl
      have f0 := blk_frozen hb1 6
      have q0 : wr.cell? ⟨w.heap.size + 1, 6, none⟩ = some (.int .i64 0) := (blk_cell hb1 6).trans rfl
      have B0 := Lib.hid hb0
      have B1 := Lib.hid hb1
      clear hb0 hb1 hbel hk
      go_wp2_with fail
      go_roundw
      case rel =>
        refine ⟨7, by omega, rfl, ?_, ?_, ?_⟩
        · exact blk_far B0.out (by simp) _
        · exact blk_put B1.out 6 _ (by rfl)
        · exact below_set HBEL.out (by omega)
      case measure => simp [intOf]
    · have c0 : wr.cell? ⟨w.heap.size, 7, none⟩ = some (.int .u8 a7) := (blk_cell hb0 7).trans rfl
      have f0 := blk_frozen hb1 7
      have q0 : wr.cell? ⟨w.heap.size + 1, 7, none⟩ = some (.int .i64 0) := (blk_cell hb1 7).trans rfl
      have B0 := Lib.hid hb0
      have B1 := Lib.hid hb1
      clear hb0 hb1 hbel hk
      go_wp2_with fail
      go_roundw
      case rel =>
        refine ⟨8, by omega, rfl, ?_, ?_, ?_⟩
        · exact blk_far B0.out (by simp) _
        · exact blk_put B1.out 7 _ (by rfl)
        · exact below_set HBEL.out (by omega)
      case measure => simp [intOf]
    · have q : ∀ i : Nat, i < 8 → wr.frozen? ⟨w.heap.size + 1, i, none⟩ = false := fun i _ => blk_frozen hb1 i
      have q0 : wr.cell? ⟨w.heap.size + 1, 0, none⟩ = some (.int .i64 (1 + a0 % 9)) := (blk_cell hb1 0).trans rfl
      have q1 : wr.cell? ⟨w.heap.size + 1, 1, none⟩ = some (.int .i64 (1 + a1 % 9)) := (blk_cell hb1 1).trans rfl
      have q2 : wr.cell? ⟨w.heap.size + 1, 2, none⟩ = some (.int .i64 (1 + a2 % 9)) := (blk_cell hb1 2).trans rfl
      have q3 : wr.cell? ⟨w.heap.size + 1, 3, none⟩ = some (.int .i64 (1 + a3 % 9)) := (blk_cell hb1 3).trans rfl
      have q4 : wr.cell? ⟨w.heap.size + 1, 4, none⟩ = some (.int .i64 (1 + a4 % 9)) := (blk_cell hb1 4).trans rfl
      have q5 : wr.cell? ⟨w.heap.size + 1, 5, none⟩ = some (.int .i64 (1 + a5 % 9)) := (blk_cell hb1 5).trans rfl
      have q6 : wr.cell? ⟨w.heap.size + 1, 6, none⟩ = some (.int .i64 (1 + a6 % 9)) := (blk_cell hb1 6).trans rfl
      have q7 : wr.cell? ⟨w.heap.size + 1, 7, none⟩ = some (.int .i64 (1 + a7 % 9)) := (blk_cell hb1 7).trans rfl
      have B1 := Lib.hid hb1
      clear hb0 hb1 hbel hk q
      obtain ⟨x, y, z, u, hm, hr⟩ := made_ok (a := 1 + a0 % 9) (b := 1 + a1 % 9) (c := 1 + a2 % 9) (d := 1 + a3 % 9) (by omega) (by omega) (by omega) (by omega)
      obtain ⟨x', y', z', u', hm', hr'⟩ := made_ok (a := 1 + a4 % 9) (b := 1 + a5 % 9) (c := 1 + a6 % 9) (d := 1 + a7 % 9) (by omega) (by omega) (by omega) (by omega)
      have M1 := Lib.hid hm
      have M2 := Lib.hid hm'
      clear hm hm' h0 h1 h2 h3 h4 h5 h6 h7
      go_wp2_with (first | (go_at_call 6; (with_reducible refine (addr_Made.calls _ _ _ _ x y z u true _ M1.out).mono ?_); rintro e w1 ⟨rfl, hb1⟩; have d1 := Lib.hid (blk_below B1.out hb1); have hl := blk_lt d1.out; have p4 : w1.cell? ⟨w.heap.size + 1, 4, none⟩ = some (.int .i64 (1 + a4 % 9)) := (blk_cell d1.out 4).trans rfl; have p5 : w1.cell? ⟨w.heap.size + 1, 5, none⟩ = some (.int .i64 (1 + a5 % 9)) := (blk_cell d1.out 5).trans rfl; have p6 : w1.cell? ⟨w.heap.size + 1, 6, none⟩ = some (.int .i64 (1 + a6 % 9)) := (blk_cell d1.out 6).trans rfl; have p7 : w1.cell? ⟨w.heap.size + 1, 7, none⟩ = some (.int .i64 (1 + a7 % 9)) := (blk_cell d1.out 7).trans rfl) | (go_at_call 6; (with_reducible refine (addr_Made.calls _ _ _ _ x' y' z' u' true _ M2.out).mono ?_); rintro e w2 ⟨rfl, hb2⟩))
      have z1 : Below w.heap.size w w1 := below_step HBEL.out hb1
      have k1 := blk_below (blk_new w1 (.cells #[.int .i64 x, .int .i64 y, .int .i64 z, .int .i64 u] 27)) hb2
      have z2 : Below w.heap.size w w2 := below_step (z1.alloc (z1.size) _) hb2
      have kk := blk_lt k1
      have HK1 := Lib.hid k1
      have HZ2 := Lib.hid z2
      clear k1 z2
      go_loopw [9, 10, 11] (fun b n i wr => ∃ (X : Nat) (B : Bool) (N : Int), 1 ≤ X ∧ X ≤ 10 ∧ b = .bool B ∧ Hid (B = true ↔ Both x y z u x' y' z' u' X 1) ∧ n = .int .i64 N ∧ Hid (N = cellsN x y z u X 1) ∧ 0 ≤ N ∧ N ≤ 9 * ((X : Int) - 1) ∧ i = .int .i64 X ∧ wr.heap[w1.heap.size]? = some (.cells #[.int .i64 x, .int .i64 y, .int .i64 z, .int .i64 u] 27 (0, 0)) ∧ wr.heap[w2.heap.size]? = some (.cells #[.int .i64 x', .int .i64 y', .int .i64 z', .int .i64 u'] 27 (0, 0)) ∧ Below w.heap.size w wr)
        (fun _ _ i _ => 10 - (intOf i).toNat)
      case atStart =>
        refine ⟨1, false, 0, by omega, by omega, rfl, Lib.hid (both_start x y z u x' y' z' u'), rfl, Lib.hid (cells_start hr), by omega, by omega, rfl, ?_, ?_, ?_⟩
        · exact blk_alloc HK1.out _
        · exact blk_new w2 _
        · exact HZ2.out.alloc HZ2.out.size _
      case round =>
        obtain ⟨X, B0, N0, hX, hX', rfl, hB0, rfl, hN0, hn0, hn1, rfl, r1, r2, hbel⟩ := hrel
        have R1 := Lib.hid r1
        have R2 := Lib.hid r2
        have HW := Lib.hid hbel
        have hl1 := blk_lt r1
        have hl2 := blk_lt r2
        clear r1 r2 hbel
        by_cases hx : X ≤ 9
        · have hxd : decide ((X : Int) ≤ 9) = true := by simp; omega
          go_wp2_with fail
          obtain ⟨wo, hwo⟩ : ∃ wo : World, wo = wr := ⟨_, rfl⟩
          rw [← hwo]
          rw [← hwo] at R1 R2 HW hl1 hl2
          clear hwo
          go_loopw [9, 10, 12] (fun b n i wb => ∃ (Y : Nat) (B : Bool) (N : Int), 1 ≤ Y ∧ Y ≤ 10 ∧ b = .bool B ∧ Hid (B = true ↔ Both x y z u x' y' z' u' X Y) ∧ n = .int .i64 N ∧ Hid (N = cellsN x y z u X Y) ∧ 0 ≤ N ∧ N ≤ 9 * ((X : Int) - 1) + ((Y : Int) - 1) ∧ i = .int .i64 Y ∧ wb.heap[w1.heap.size]? = some (.cells #[.int .i64 x, .int .i64 y, .int .i64 z, .int .i64 u] 27 (0, 0)) ∧ wb.heap[w2.heap.size]? = some (.cells #[.int .i64 x', .int .i64 y', .int .i64 z', .int .i64 u'] 27 (0, 0)) ∧ Below w.heap.size w wb)
            (fun _ _ i _ => 10 - (intOf i).toNat)
          case atStart => exact ⟨1, B0, N0, by omega, by omega, rfl, hB0, rfl, hN0, by omega, by omega, rfl, R1.out, R2.out, HW.out⟩
          case round =>
            obtain ⟨Y, B, N, hY, hY', rfl, hB, rfl, hN, hm0, hm1, rfl, r1, r2, hbel⟩ := hrel
            obtain ⟨wb, hwb⟩ : ∃ wb : World, wb = wr := ⟨_, rfl⟩
            rw [← hwb]
            rw [← hwb] at r1 r2 hbel
            clear hwb
            have S1 := Lib.hid r1
            have S2 := Lib.hid r2
            have HV := Lib.hid hbel
            have hs1 := blk_lt r1
            have hs2 := blk_lt r2
            clear r1 r2 hbel R1 R2 HW hl1 hl2
            by_cases hy : Y ≤ 9
            · have hw1 : wrap64 ((Y : Int) + 1) = (Y : Int) + 1 := M.wrap64_id (by unfold I64; omega)
              have HWY := Lib.hid hw1
              clear hw1
              have D1 := Lib.hid (blk_alloc S1.out (.cells #[.int .i64 X, .int .i64 Y] 25))
              have D2 := Lib.hid (blk_alloc S2.out (.cells #[.int .i64 X, .int .i64 Y] 25))
              have D3 := Lib.hid (blk_new wb (.cells #[.int .i64 X, .int .i64 Y] 25))
              have HE := Lib.hid (HV.out.alloc HV.out.size (.cells #[.int .i64 X, .int .i64 Y] 25))
              have f0_0 : wb.cell? ⟨w1.heap.size, 0, none⟩ = some (.int .i64 x) := (blk_cell S1.out 0).trans rfl
              have f0_1 : wb.cell? ⟨w1.heap.size, 1, none⟩ = some (.int .i64 y) := (blk_cell S1.out 1).trans rfl
              have f0_2 : wb.cell? ⟨w1.heap.size, 2, none⟩ = some (.int .i64 z) := (blk_cell S1.out 2).trans rfl
              have f0_3 : wb.cell? ⟨w1.heap.size, 3, none⟩ = some (.int .i64 u) := (blk_cell S1.out 3).trans rfl
              have g0_0 : wb.cell? ⟨w2.heap.size, 0, none⟩ = some (.int .i64 x') := (blk_cell S2.out 0).trans rfl
              have g0_1 : wb.cell? ⟨w2.heap.size, 1, none⟩ = some (.int .i64 y') := (blk_cell S2.out 1).trans rfl
              have g0_2 : wb.cell? ⟨w2.heap.size, 2, none⟩ = some (.int .i64 z') := (blk_cell S2.out 2).trans rfl
              have g0_3 : wb.cell? ⟨w2.heap.size, 3, none⟩ = some (.int .i64 u') := (blk_cell S2.out 3).trans rfl
              have hst : ∀ B' : Bool, (B || (hasB x y z u X Y && hasB x' y' z' u' X Y)) = B' → (B' = true ↔ Both x y z u x' y' z' u' X (Y + 1)) := fun B' e => by
                rw [← e]; exact both_step (by omega) (by omega) (by omega) hB.out
              have hct : ∀ N' : Int, (if hasB x y z u X Y = true then N + 1 else N) = N' → N' = cellsN x y z u X (Y + 1) := fun N' e => by
                rw [← e]; exact cells_step hr hN.out
              have hf1 := has_eq x y z u X Y
              have hf2 := has_eq x' y' z' u' X Y
              cases hP : hasB x y z u X Y
              all_goals
                cases hQ : hasB x' y' z' u' X Y
              all_goals
                cases B
              all_goals
                rw [hP] at hf1 hst hct
                rw [hQ] at hf2 hst
                have HF1 := Lib.hid hf1
                have HF2 := Lib.hid hf2
                have HST := Lib.hid (hst _ rfl)
                have HCT := Lib.hid (hct _ rfl)
                clear hf1 hf2 hst hct hP hQ hB hN
                go_wp2_with (first | (go_at_call 7; (with_reducible refine (addr_Has.calls _ _ _ _ _ _ _ _ HF1.out).mono ?_); rintro e w3 ⟨rfl, hb3⟩; have D1 := Lib.hid (blk_below D1.out hb3); have D2 := Lib.hid (blk_below D2.out hb3); have D3 := Lib.hid (blk_below D3.out hb3); have HE := Lib.hid (below_step HE.out hb3); have f1_0 : w3.cell? ⟨w1.heap.size, 0, none⟩ = some (.int .i64 x) := (blk_cell D1.out 0).trans rfl; have f1_1 : w3.cell? ⟨w1.heap.size, 1, none⟩ = some (.int .i64 y) := (blk_cell D1.out 1).trans rfl; have f1_2 : w3.cell? ⟨w1.heap.size, 2, none⟩ = some (.int .i64 z) := (blk_cell D1.out 2).trans rfl; have f1_3 : w3.cell? ⟨w1.heap.size, 3, none⟩ = some (.int .i64 u) := (blk_cell D1.out 3).trans rfl; have g1_0 : w3.cell? ⟨w2.heap.size, 0, none⟩ = some (.int .i64 x') := (blk_cell D2.out 0).trans rfl; have g1_1 : w3.cell? ⟨w2.heap.size, 1, none⟩ = some (.int .i64 y') := (blk_cell D2.out 1).trans rfl; have g1_2 : w3.cell? ⟨w2.heap.size, 2, none⟩ = some (.int .i64 z') := (blk_cell D2.out 2).trans rfl; have g1_3 : w3.cell? ⟨w2.heap.size, 3, none⟩ = some (.int .i64 u') := (blk_cell D2.out 3).trans rfl; have k1_0 : w3.cell? ⟨wb.heap.size, 0, none⟩ = some (.int .i64 X) := (blk_cell D3.out 0).trans rfl; have k1_1 : w3.cell? ⟨wb.heap.size, 1, none⟩ = some (.int .i64 Y) := (blk_cell D3.out 1).trans rfl; have hz1 := blk_lt D1.out; have hz2 := blk_lt D2.out; clear hb3) | (go_at_call 7; (with_reducible refine (addr_Has.calls _ _ _ _ _ _ _ _ HF2.out).mono ?_); rintro e w3 ⟨rfl, hb3⟩; have D1 := Lib.hid (blk_below D1.out hb3); have D2 := Lib.hid (blk_below D2.out hb3); have D3 := Lib.hid (blk_below D3.out hb3); have HE := Lib.hid (below_step HE.out hb3); have f1_0 : w3.cell? ⟨w1.heap.size, 0, none⟩ = some (.int .i64 x) := (blk_cell D1.out 0).trans rfl; have f1_1 : w3.cell? ⟨w1.heap.size, 1, none⟩ = some (.int .i64 y) := (blk_cell D1.out 1).trans rfl; have f1_2 : w3.cell? ⟨w1.heap.size, 2, none⟩ = some (.int .i64 z) := (blk_cell D1.out 2).trans rfl; have f1_3 : w3.cell? ⟨w1.heap.size, 3, none⟩ = some (.int .i64 u) := (blk_cell D1.out 3).trans rfl; have g1_0 : w3.cell? ⟨w2.heap.size, 0, none⟩ = some (.int .i64 x') := (blk_cell D2.out 0).trans rfl; have g1_1 : w3.cell? ⟨w2.heap.size, 1, none⟩ = some (.int .i64 y') := (blk_cell D2.out 1).trans rfl; have g1_2 : w3.cell? ⟨w2.heap.size, 2, none⟩ = some (.int .i64 z') := (blk_cell D2.out 2).trans rfl; have g1_3 : w3.cell? ⟨w2.heap.size, 3, none⟩ = some (.int .i64 u') := (blk_cell D2.out 3).trans rfl; have k1_0 : w3.cell? ⟨wb.heap.size, 0, none⟩ = some (.int .i64 X) := (blk_cell D3.out 0).trans rfl; have k1_1 : w3.cell? ⟨wb.heap.size, 1, none⟩ = some (.int .i64 Y) := (blk_cell D3.out 1).trans rfl; have hz1 := blk_lt D1.out; have hz2 := blk_lt D2.out; clear hb3))
                go_roundw
                case rel =>
                  exact ⟨Y + 1, _, _, by omega, by omega, rfl, HST, rfl, HCT, by first | omega | (simp; omega), by first | omega | (simp; omega), by go_num, D1.out, D2.out, HE.out⟩
                case measure => simp [intOf]; omega
            · have hY9 : Y = 10 := by omega
              subst hY9
              go_wp2_with fail
              go_roundw
              case rel =>
                exact ⟨X + 1, B, N, by omega, by omega, rfl, Lib.hid (by have h := both_row (X := X) hB.out; simpa using h), rfl, Lib.hid (by have h := cells_row (X := X) hr hN.out; simpa using h), by omega, by omega, by go_num, S1.out, S2.out, HV.out⟩
              case measure => simp [intOf]; omega
        · have hX10 : X = 10 := by omega
          subst hX10
          have hm1 : (B0 = meetB x y z u x' y' z' u') := by
            rw [Bool.eq_iff_iff]; exact hB0.out.trans (both_end hr hr').symm
          have hm2 : countS x y z u = N0 := cells_end hr hN0.out
          have E1 := Lib.hid (meet_eq x y z u x' y' z' u')
          have E2 := Lib.hid ((meet_eq x' y' z' u' x y z u).trans (by rw [meet_turn]))
          have E3 := Lib.hid ((count_eq x y z u).trans (by rw [hm2]))
          have E4 := Lib.hid wakes02
          rw [← hm1] at E1 E2
          clear hm1 hm2 hB0 hN0
          have D1 := R1
          have D2 := R2
          have HE := HW
          have f0_0 : wr.cell? ⟨w1.heap.size, 0, none⟩ = some (.int .i64 x) := (blk_cell D1.out 0).trans rfl
          have f0_1 : wr.cell? ⟨w1.heap.size, 1, none⟩ = some (.int .i64 y) := (blk_cell D1.out 1).trans rfl
          have f0_2 : wr.cell? ⟨w1.heap.size, 2, none⟩ = some (.int .i64 z) := (blk_cell D1.out 2).trans rfl
          have f0_3 : wr.cell? ⟨w1.heap.size, 3, none⟩ = some (.int .i64 u) := (blk_cell D1.out 3).trans rfl
          have g0_0 : wr.cell? ⟨w2.heap.size, 0, none⟩ = some (.int .i64 x') := (blk_cell D2.out 0).trans rfl
          have g0_1 : wr.cell? ⟨w2.heap.size, 1, none⟩ = some (.int .i64 y') := (blk_cell D2.out 1).trans rfl
          have g0_2 : wr.cell? ⟨w2.heap.size, 2, none⟩ = some (.int .i64 z') := (blk_cell D2.out 2).trans rfl
          have g0_3 : wr.cell? ⟨w2.heap.size, 3, none⟩ = some (.int .i64 u') := (blk_cell D2.out 3).trans rfl
          go_wp2_with (first | (go_at_call 8; (with_reducible refine (addr_Meet.calls _ _ _ _ _ _ _ _ _ _ E1.out).mono ?_); rintro e w3 ⟨rfl, hb3⟩; have D1 := Lib.hid (blk_below D1.out hb3); have D2 := Lib.hid (blk_below D2.out hb3); have HE := Lib.hid (below_step HE.out hb3); have f1_0 : w3.cell? ⟨w1.heap.size, 0, none⟩ = some (.int .i64 x) := (blk_cell D1.out 0).trans rfl; have f1_1 : w3.cell? ⟨w1.heap.size, 1, none⟩ = some (.int .i64 y) := (blk_cell D1.out 1).trans rfl; have f1_2 : w3.cell? ⟨w1.heap.size, 2, none⟩ = some (.int .i64 z) := (blk_cell D1.out 2).trans rfl; have f1_3 : w3.cell? ⟨w1.heap.size, 3, none⟩ = some (.int .i64 u) := (blk_cell D1.out 3).trans rfl; have g1_0 : w3.cell? ⟨w2.heap.size, 0, none⟩ = some (.int .i64 x') := (blk_cell D2.out 0).trans rfl; have g1_1 : w3.cell? ⟨w2.heap.size, 1, none⟩ = some (.int .i64 y') := (blk_cell D2.out 1).trans rfl; have g1_2 : w3.cell? ⟨w2.heap.size, 2, none⟩ = some (.int .i64 z') := (blk_cell D2.out 2).trans rfl; have g1_3 : w3.cell? ⟨w2.heap.size, 3, none⟩ = some (.int .i64 u') := (blk_cell D2.out 3).trans rfl; clear hb3) | (go_at_call 8; (with_reducible refine (addr_Meet.calls _ _ _ _ _ _ _ _ _ _ E2.out).mono ?_); rintro e w3 ⟨rfl, hb3⟩; have D1 := Lib.hid (blk_below D1.out hb3); have D2 := Lib.hid (blk_below D2.out hb3); have HE := Lib.hid (below_step HE.out hb3); have f1_0 : w3.cell? ⟨w1.heap.size, 0, none⟩ = some (.int .i64 x) := (blk_cell D1.out 0).trans rfl; have f1_1 : w3.cell? ⟨w1.heap.size, 1, none⟩ = some (.int .i64 y) := (blk_cell D1.out 1).trans rfl; have f1_2 : w3.cell? ⟨w1.heap.size, 2, none⟩ = some (.int .i64 z) := (blk_cell D1.out 2).trans rfl; have f1_3 : w3.cell? ⟨w1.heap.size, 3, none⟩ = some (.int .i64 u) := (blk_cell D1.out 3).trans rfl; have g1_0 : w3.cell? ⟨w2.heap.size, 0, none⟩ = some (.int .i64 x') := (blk_cell D2.out 0).trans rfl; have g1_1 : w3.cell? ⟨w2.heap.size, 1, none⟩ = some (.int .i64 y') := (blk_cell D2.out 1).trans rfl; have g1_2 : w3.cell? ⟨w2.heap.size, 2, none⟩ = some (.int .i64 z') := (blk_cell D2.out 2).trans rfl; have g1_3 : w3.cell? ⟨w2.heap.size, 3, none⟩ = some (.int .i64 u') := (blk_cell D2.out 3).trans rfl; clear hb3) | (go_at_call 9; (with_reducible refine (addr_Count.calls _ _ _ _ _ _ E3.out).mono ?_); rintro e w3 ⟨rfl, hb3⟩; have D1 := Lib.hid (blk_below D1.out hb3); have D2 := Lib.hid (blk_below D2.out hb3); have HE := Lib.hid (below_step HE.out hb3); have f1_0 : w3.cell? ⟨w1.heap.size, 0, none⟩ = some (.int .i64 x) := (blk_cell D1.out 0).trans rfl; have f1_1 : w3.cell? ⟨w1.heap.size, 1, none⟩ = some (.int .i64 y) := (blk_cell D1.out 1).trans rfl; have f1_2 : w3.cell? ⟨w1.heap.size, 2, none⟩ = some (.int .i64 z) := (blk_cell D1.out 2).trans rfl; have f1_3 : w3.cell? ⟨w1.heap.size, 3, none⟩ = some (.int .i64 u) := (blk_cell D1.out 3).trans rfl; have g1_0 : w3.cell? ⟨w2.heap.size, 0, none⟩ = some (.int .i64 x') := (blk_cell D2.out 0).trans rfl; have g1_1 : w3.cell? ⟨w2.heap.size, 1, none⟩ = some (.int .i64 y') := (blk_cell D2.out 1).trans rfl; have g1_2 : w3.cell? ⟨w2.heap.size, 2, none⟩ = some (.int .i64 z') := (blk_cell D2.out 2).trans rfl; have g1_3 : w3.cell? ⟨w2.heap.size, 3, none⟩ = some (.int .i64 u') := (blk_cell D2.out 3).trans rfl; clear hb3) | (go_at_call 10; (with_reducible refine (pannierlaw02_wakes.calls _ _ (gl_1_1 HE.out HG.out) E4.out).mono ?_); rintro e w3 ⟨rfl, hb3⟩; have HE := Lib.hid (below_step HE.out hb3)))
          go_ret
          exact ⟨rfl, HE.out⟩

def pannierlaw02_AddrMeets.f (k : Nat) (l : List Int) : Option Bool := if l.length = 8 ∧ ∀ a ∈ l, 0 ≤ a ∧ a ≤ 255 then some true else none
theorem pannierlaw02_AddrMeets.calls (k : Nat) (l : List Int) (r : Bool) (w : World) (hG : G1 w) (h : pannierlaw02_AddrMeets.f k l = some r) :
    Calls Tryd.prog 3 #[.agg (l.map fun a => Value.int .u8 a).toArray] w fun e w' => e = .returned (.bool r) ∧ Below w.heap.size w w' := by
  unfold pannierlaw02_AddrMeets.f at h
  split at h
  · rename_i hc
    obtain ⟨hl, h'⟩ := hc
    obtain rfl := Option.some.inj h
    match l, hl with
    | [a0, a1, a2, a3, a4, a5, a6, a7], _ => exact AddrMeets.calls a0 a1 a2 a3 a4 a5 a6 a7 w hG (h' _ (by simp)) (h' _ (by simp)) (h' _ (by simp)) (h' _ (by simp)) (h' _ (by simp)) (h' _ (by simp)) (h' _ (by simp)) (h' _ (by simp))
  · cases h
theorem u8wf {n : Int} (h : (Lit.int .u8 n).wf = true) : 0 ≤ n ∧ n ≤ 255 := by
  simp [Lit.wf, IntKind.min, IntKind.max, IntKind.signed, IntKind.bits] at h; omega
theorem AddrMeets_pure (l : List Int) (hl : l.length = 8) (hw : ∀ a ∈ l, (Lit.int .u8 a).wf = true) : ∃ k, pannierlaw02_AddrMeets.f k l = some true :=
  ⟨0, if_pos ⟨hl, fun a ha => u8wf (hw a ha)⟩⟩

end Go.Proofs.YtmhjnkeflbklpaaDoor.P
