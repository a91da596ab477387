/- Contracts of the functions that the law reaches, each with the plain function that it comes to, and plain facts about these. -/
import Derived.WalkKit
import Derived.LaidEql
import Derived.Stop.Asserts
import Derived.RowKitTokens
import Derived.Deep.RegionHeld3
import Derived.Deep.DrawnRows
import Derived.Test.YtnomfbmebafolaaGreatDoorBL2
import Derived.Test.YtnomfbmebafolaaGreatDoorBL4
namespace Go.Proofs.YtnomfbmebafolaaGreatDoor.P
open Go.RowKit Go.Proofs.YtnomfbmebafolaaGreatDoorW.PrintWords Go.Proofs.YtnomfbmebafolaaGreatDoorW.PrintLast Go.Proofs.YtnomfbmebafolaaGreatDoorW.PrintMore
attribute [local go_sem] max2_int min2_int max_two min_two max_three min_three max_four min_four   -- for this text's walks alone
set_option linter.unusedVariables false
set_option linter.unusedSimpArgs false
attribute [local go_sem high] eqA28
def tree_fields.f (a0_0 : Int) (a0_1 : Int) (a0_2 : Int) (a0_3 : ByteArray) (a0_4 : Int) (a0_5 : Int) (a0_6 : Int) (a0_7 : Int) (a0_8 : ByteArray) (l0_9 : List (S31)) (a1 : Bool) (a2 : Bool) (a3 : Bool) (a4 : Int) (a5 : Int) : Option (Bool) := if a1 = true then (if a2 = true then (if a3 = true then (if (l0_9.length : Int) ≥ a4 then (some (decide ((l0_9.length : Int) ≤ a5))) else (some false)) else (if a0_8.toList = ([] : List UInt8) then (if (l0_9.length : Int) ≥ a4 then (some (decide ((l0_9.length : Int) ≤ a5))) else (some false)) else (some false))) else (if ((a0_4 == 0 && (a0_5 == 0)) && ((a0_6 == 0 && (a0_7 == 0)))) = true then (if a3 = true then (if (l0_9.length : Int) ≥ a4 then (some (decide ((l0_9.length : Int) ≤ a5))) else (some false)) else (if a0_8.toList = ([] : List UInt8) then (if (l0_9.length : Int) ≥ a4 then (some (decide ((l0_9.length : Int) ≤ a5))) else (some false)) else (some false))) else (some false))) else ((value_Same.f a0_1 a0_2 a0_3 0 0 (⟨#[]⟩ : ByteArray)).bind fun t127 => (if t127 = true then (if a2 = true then (if a3 = true then (if (l0_9.length : Int) ≥ a4 then (some (decide ((l0_9.length : Int) ≤ a5))) else (some false)) else (if a0_8.toList = ([] : List UInt8) then (if (l0_9.length : Int) ≥ a4 then (some (decide ((l0_9.length : Int) ≤ a5))) else (some false)) else (some false))) else (if ((a0_4 == 0 && (a0_5 == 0)) && ((a0_6 == 0 && (a0_7 == 0)))) = true then (if a3 = true then (if (l0_9.length : Int) ≥ a4 then (some (decide ((l0_9.length : Int) ≤ a5))) else (some false)) else (if a0_8.toList = ([] : List UInt8) then (if (l0_9.length : Int) ≥ a4 then (some (decide ((l0_9.length : Int) ≤ a5))) else (some false)) else (some false))) else (some false))) else (some false)))
set_option maxHeartbeats 8000000 in
set_option maxRecDepth 100000 in
theorem tree_fields.calls (a0_0 : Int) (a0_1 : Int) (a0_2 : Int) (a0_3 : ByteArray) (a0_4 : Int) (a0_5 : Int) (a0_6 : Int) (a0_7 : Int) (a0_8 : ByteArray) (A0_9 : Option Addr) (c0_9 : Nat) (l0_9 : List (S31)) (a1 : Bool) (a2 : Bool) (a3 : Bool) (a4 : Int) (a5 : Int) (r : Bool) (w : World) (hr0_9 : Kd.C k31 w A0_9 l0_9.length l0_9) (hc0_9 : l0_9.length ≤ c0_9) (h : tree_fields.f a0_0 a0_1 a0_2 a0_3 a0_4 a0_5 a0_6 a0_7 a0_8 l0_9 a1 a2 a3 a4 a5 = some r) :
    Calls Tryz.prog 63 #[.agg #[.int .i64 a0_0, .int .i64 a0_1, .int .i64 a0_2, .string a0_3, .int .i64 a0_4, .int .i64 a0_5, .int .i64 a0_6, .int .i64 a0_7, .string a0_8, .slice A0_9 l0_9.length c0_9], .bool a1, .bool a2, .bool a3, .int .i64 a4, .int .i64 a5] w fun e w' => e = .returned (.bool r) ∧ Below w.heap.size w w' := by
  have hu31 := Tryz.underlying31
  have hu24 := Tryz.underlying24
  have hu28 := Tryz.underlying28
  have HR0_9 := Aside0.mk hr0_9
  have HC0_9 := Aside0.mk hc0_9
  clear hr0_9 hc0_9
  have HB := Aside0.mk (Below.refl w.heap.size w)
  have H : (if a1 = true then (if a2 = true then (if a3 = true then (if (l0_9.length : Int) ≥ a4 then (some (decide ((l0_9.length : Int) ≤ a5))) else (some false)) else (if a0_8.toList = ([] : List UInt8) then (if (l0_9.length : Int) ≥ a4 then (some (decide ((l0_9.length : Int) ≤ a5))) else (some false)) else (some false))) else (if ((a0_4 == 0 && (a0_5 == 0)) && ((a0_6 == 0 && (a0_7 == 0)))) = true then (if a3 = true then (if (l0_9.length : Int) ≥ a4 then (some (decide ((l0_9.length : Int) ≤ a5))) else (some false)) else (if a0_8.toList = ([] : List UInt8) then (if (l0_9.length : Int) ≥ a4 then (some (decide ((l0_9.length : Int) ≤ a5))) else (some false)) else (some false))) else (some false))) else ((value_Same.f a0_1 a0_2 a0_3 0 0 (⟨#[]⟩ : ByteArray)).bind fun t127 => (if t127 = true then (if a2 = true then (if a3 = true then (if (l0_9.length : Int) ≥ a4 then (some (decide ((l0_9.length : Int) ≤ a5))) else (some false)) else (if a0_8.toList = ([] : List UInt8) then (if (l0_9.length : Int) ≥ a4 then (some (decide ((l0_9.length : Int) ≤ a5))) else (some false)) else (some false))) else (if ((a0_4 == 0 && (a0_5 == 0)) && ((a0_6 == 0 && (a0_7 == 0)))) = true then (if a3 = true then (if (l0_9.length : Int) ≥ a4 then (some (decide ((l0_9.length : Int) ≤ a5))) else (some false)) else (if a0_8.toList = ([] : List UInt8) then (if (l0_9.length : Int) ≥ a4 then (some (decide ((l0_9.length : Int) ≤ a5))) else (some false)) else (some false))) else (some false))) else (some false)))) = some r := h
  clear h
  by_cases c7 : a1 = true
  · subst c7
    have H1 : (if a2 = true then (if a3 = true then (if (l0_9.length : Int) ≥ a4 then (some (decide ((l0_9.length : Int) ≤ a5))) else (some false)) else (if a0_8.toList = ([] : List UInt8) then (if (l0_9.length : Int) ≥ a4 then (some (decide ((l0_9.length : Int) ≤ a5))) else (some false)) else (some false))) else (if ((a0_4 == 0 && (a0_5 == 0)) && ((a0_6 == 0 && (a0_7 == 0)))) = true then (if a3 = true then (if (l0_9.length : Int) ≥ a4 then (some (decide ((l0_9.length : Int) ≤ a5))) else (some false)) else (if a0_8.toList = ([] : List UInt8) then (if (l0_9.length : Int) ≥ a4 then (some (decide ((l0_9.length : Int) ≤ a5))) else (some false)) else (some false))) else (some false))) = some r := by rw [if_pos rfl] at H; exact H
    clear H
    have H := H1
    clear H1
    by_cases c8 : a2 = true
    · subst c8
      have H1 : (if a3 = true then (if (l0_9.length : Int) ≥ a4 then (some (decide ((l0_9.length : Int) ≤ a5))) else (some false)) else (if a0_8.toList = ([] : List UInt8) then (if (l0_9.length : Int) ≥ a4 then (some (decide ((l0_9.length : Int) ≤ a5))) else (some false)) else (some false))) = some r := by rw [if_pos rfl] at H; exact H
      clear H
      have H := H1
      clear H1
      by_cases c9 : a3 = true
      · subst c9
        have H1 : (if (l0_9.length : Int) ≥ a4 then (some (decide ((l0_9.length : Int) ≤ a5))) else (some false)) = some r := by rw [if_pos rfl] at H; exact H
        clear H
        have H := H1
        clear H1
        by_cases c10 : (l0_9.length : Int) ≥ a4
        · rw [if_pos c10] at H
          have c10b0 : decide (a4 ≤ (l0_9.length : Int)) = true := decide_eq_true c10
          clear c10
          obtain rfl := Option.some.inj H
          go_enter Tryz.func63, Tryz.ntmps63
          go_wp2_with (first | ((with_reducible refine gate_dst (N := 6) rfl ?_); (try (refine gate_guard (by rfl) ?_; dsimp only)); refine box_event ?hg (N := 6) ?hd (cs := #[.int .i64 a0_0, .int .i64 a0_1, .int .i64 a0_2, .string a0_3, .int .i64 a0_4, .int .i64 a0_5, .int .i64 a0_6, .int .i64 a0_7, .string a0_8, .slice A0_9 l0_9.length c0_9]) (t := 31) ?hr ?_; (case hd => rfl); (case hg => rfl); (case hr => first | (go_simp; done) | (go_simp; rfl)); intro gb126 hg w11 hbox hb; have n0_ := Aside0.mk (below_step zz1 hb); have n1_ := Aside0.mk (hbox); have n2_ := Aside0.mk ((by rw [hg]; exact (below_size zz1) : w.heap.size ≤ gb126)); have n3_ := n2_; clear HB; have HB := n0_; have BK126 := n1_; have GW126 := n2_; have GE126 := n3_; clear n0_ n1_ n2_ n3_; clear hb hbox hg; obtain ⟨_, _, _, _, _, _, _, _, _, _, _, _, _, _, _, _, _, _, _, _⟩ := zC10 BK126.out))
          go_ret
          exact ⟨zz26, zz3⟩
        · rw [if_neg c10] at H
          have c10b0 : decide (a4 ≤ (l0_9.length : Int)) = false := decide_eq_false c10
          clear c10
          obtain rfl := Option.some.inj H
          go_enter Tryz.func63, Tryz.ntmps63
          go_wp2_with (first | ((with_reducible refine gate_dst (N := 6) rfl ?_); (try (refine gate_guard (by rfl) ?_; dsimp only)); refine box_event ?hg (N := 6) ?hd (cs := #[.int .i64 a0_0, .int .i64 a0_1, .int .i64 a0_2, .string a0_3, .int .i64 a0_4, .int .i64 a0_5, .int .i64 a0_6, .int .i64 a0_7, .string a0_8, .slice A0_9 l0_9.length c0_9]) (t := 31) ?hr ?_; (case hd => rfl); (case hg => rfl); (case hr => first | (go_simp; done) | (go_simp; rfl)); intro gb126 hg w13 hbox hb; have n0_ := Aside0.mk (below_step zz1 hb); have n1_ := Aside0.mk (hbox); have n2_ := Aside0.mk ((by rw [hg]; exact (below_size zz1) : w.heap.size ≤ gb126)); have n3_ := n2_; clear HB; have HB := n0_; have BK126 := n1_; have GW126 := n2_; have GE126 := n3_; clear n0_ n1_ n2_ n3_; clear hb hbox hg; obtain ⟨_, _, _, _, _, _, _, _, _, _, _, _, _, _, _, _, _, _, _, _⟩ := zC10 BK126.out))
          go_ret
          exact ⟨zz26, zz3⟩
      · replace c9 := Bool.eq_false_iff.mpr c9
        subst c9
        have H1 : (if a0_8.toList = ([] : List UInt8) then (if (l0_9.length : Int) ≥ a4 then (some (decide ((l0_9.length : Int) ≤ a5))) else (some false)) else (some false)) = some r := by rw [if_neg (show ¬ (false = true) by decide)] at H; exact H
        clear H
        have H := H1
        clear H1
        by_cases c15 : a0_8.toList = ([] : List UInt8)
        · rw [if_pos c15] at H
          have c15b0 : (a0_8.toList == ([] : List UInt8)) = true := beq_iff_eq.mpr c15
          have c15b1 : (a0_8.toList != ([] : List UInt8)) = false := bne_eq_false_iff_eq.mpr c15
          clear c15
          by_cases c16 : (l0_9.length : Int) ≥ a4
          · rw [if_pos c16] at H
            have c16b0 : decide (a4 ≤ (l0_9.length : Int)) = true := decide_eq_true c16
            clear c16
            obtain rfl := Option.some.inj H
            go_enter Tryz.func63, Tryz.ntmps63
            go_wp2_with (first | ((with_reducible refine gate_dst (N := 6) rfl ?_); (try (refine gate_guard (by rfl) ?_; dsimp only)); refine box_event ?hg (N := 6) ?hd (cs := #[.int .i64 a0_0, .int .i64 a0_1, .int .i64 a0_2, .string a0_3, .int .i64 a0_4, .int .i64 a0_5, .int .i64 a0_6, .int .i64 a0_7, .string a0_8, .slice A0_9 l0_9.length c0_9]) (t := 31) ?hr ?_; (case hd => rfl); (case hg => rfl); (case hr => first | (go_simp; done) | (go_simp; rfl)); intro gb126 hg w17 hbox hb; have n0_ := Aside0.mk (below_step zz1 hb); have n1_ := Aside0.mk (hbox); have n2_ := Aside0.mk ((by rw [hg]; exact (below_size zz1) : w.heap.size ≤ gb126)); have n3_ := n2_; clear HB; have HB := n0_; have BK126 := n1_; have GW126 := n2_; have GE126 := n3_; clear n0_ n1_ n2_ n3_; clear hb hbox hg; obtain ⟨_, _, _, _, _, _, _, _, _, _, _, _, _, _, _, _, _, _, _, _⟩ := zC10 BK126.out))
            go_ret
            exact ⟨zz26, zz3⟩
          · rw [if_neg c16] at H
            have c16b0 : decide (a4 ≤ (l0_9.length : Int)) = false := decide_eq_false c16
            clear c16
            obtain rfl := Option.some.inj H
            go_enter Tryz.func63, Tryz.ntmps63
            go_wp2_with (first | ((with_reducible refine gate_dst (N := 6) rfl ?_); (try (refine gate_guard (by rfl) ?_; dsimp only)); refine box_event ?hg (N := 6) ?hd (cs := #[.int .i64 a0_0, .int .i64 a0_1, .int .i64 a0_2, .string a0_3, .int .i64 a0_4, .int .i64 a0_5, .int .i64 a0_6, .int .i64 a0_7, .string a0_8, .slice A0_9 l0_9.length c0_9]) (t := 31) ?hr ?_; (case hd => rfl); (case hg => rfl); (case hr => first | (go_simp; done) | (go_simp; rfl)); intro gb126 hg w19 hbox hb; have n0_ := Aside0.mk (below_step zz1 hb); have n1_ := Aside0.mk (hbox); have n2_ := Aside0.mk ((by rw [hg]; exact (below_size zz1) : w.heap.size ≤ gb126)); have n3_ := n2_; clear HB; have HB := n0_; have BK126 := n1_; have GW126 := n2_; have GE126 := n3_; clear n0_ n1_ n2_ n3_; clear hb hbox hg; obtain ⟨_, _, _, _, _, _, _, _, _, _, _, _, _, _, _, _, _, _, _, _⟩ := zC10 BK126.out))
            go_ret
            exact ⟨zz26, zz3⟩
        · rw [if_neg c15] at H
          have c15b0 : (a0_8.toList == ([] : List UInt8)) = false := beq_eq_false_iff_ne.mpr c15
          have c15b1 : (a0_8.toList != ([] : List UInt8)) = true := bne_iff_ne.mpr c15
          obtain rfl := Option.some.inj H
          go_enter Tryz.func63, Tryz.ntmps63
          go_wp2_with (first | ((with_reducible refine gate_dst (N := 6) rfl ?_); (try (refine gate_guard (by rfl) ?_; dsimp only)); refine box_event ?hg (N := 6) ?hd (cs := #[.int .i64 a0_0, .int .i64 a0_1, .int .i64 a0_2, .string a0_3, .int .i64 a0_4, .int .i64 a0_5, .int .i64 a0_6, .int .i64 a0_7, .string a0_8, .slice A0_9 l0_9.length c0_9]) (t := 31) ?hr ?_; (case hd => rfl); (case hg => rfl); (case hr => first | (go_simp; done) | (go_simp; rfl)); intro gb126 hg w21 hbox hb; have n0_ := Aside0.mk (below_step zz1 hb); have n1_ := Aside0.mk (hbox); have n2_ := Aside0.mk ((by rw [hg]; exact (below_size zz1) : w.heap.size ≤ gb126)); have n3_ := n2_; clear HB; have HB := n0_; have BK126 := n1_; have GW126 := n2_; have GE126 := n3_; clear n0_ n1_ n2_ n3_; clear hb hbox hg; obtain ⟨_, _, _, _, _, _, _, _, _, _, _, _, _, _, _, _, _, _, _, _⟩ := zC10 BK126.out))
          go_ret
          exact ⟨zz26, zz3⟩
    · replace c8 := Bool.eq_false_iff.mpr c8
      subst c8
      have H1 : (if ((a0_4 == 0 && (a0_5 == 0)) && ((a0_6 == 0 && (a0_7 == 0)))) = true then (if a3 = true then (if (l0_9.length : Int) ≥ a4 then (some (decide ((l0_9.length : Int) ≤ a5))) else (some false)) else (if a0_8.toList = ([] : List UInt8) then (if (l0_9.length : Int) ≥ a4 then (some (decide ((l0_9.length : Int) ≤ a5))) else (some false)) else (some false))) else (some false)) = some r := by rw [if_neg (show ¬ (false = true) by decide)] at H; exact H
      clear H
      have H := H1
      clear H1
      by_cases c23 : ((a0_4 == 0 && (a0_5 == 0)) && ((a0_6 == 0 && (a0_7 == 0)))) = true
      · rw [if_pos c23] at H
        have c23b0 : ((a0_4 == 0 && (a0_5 == 0)) && ((a0_6 == 0 && (a0_7 == 0)))) = true := c23
        clear c23
        by_cases c24 : a3 = true
        · subst c24
          have H1 : (if (l0_9.length : Int) ≥ a4 then (some (decide ((l0_9.length : Int) ≤ a5))) else (some false)) = some r := by rw [if_pos rfl] at H; exact H
          clear H
          have H := H1
          clear H1
          by_cases c25 : (l0_9.length : Int) ≥ a4
          · rw [if_pos c25] at H
            have c25b0 : decide (a4 ≤ (l0_9.length : Int)) = true := decide_eq_true c25
            clear c25
            obtain rfl := Option.some.inj H
            go_enter Tryz.func63, Tryz.ntmps63
            go_wp2_with (first | ((with_reducible refine gate_dst (N := 6) rfl ?_); (try (refine gate_guard (by rfl) ?_; dsimp only)); refine box_event ?hg (N := 6) ?hd (cs := #[.int .i64 a0_0, .int .i64 a0_1, .int .i64 a0_2, .string a0_3, .int .i64 a0_4, .int .i64 a0_5, .int .i64 a0_6, .int .i64 a0_7, .string a0_8, .slice A0_9 l0_9.length c0_9]) (t := 31) ?hr ?_; (case hd => rfl); (case hg => rfl); (case hr => first | (go_simp; done) | (go_simp; rfl)); intro gb126 hg w26 hbox hb; have n0_ := Aside0.mk (below_step zz1 hb); have n1_ := Aside0.mk (hbox); have n2_ := Aside0.mk ((by rw [hg]; exact (below_size zz1) : w.heap.size ≤ gb126)); have n3_ := n2_; clear HB; have HB := n0_; have BK126 := n1_; have GW126 := n2_; have GE126 := n3_; clear n0_ n1_ n2_ n3_; clear hb hbox hg; obtain ⟨_, _, _, _, _, _, _, _, _, _, _, _, _, _, _, _, _, _, _, _⟩ := zC10 BK126.out))
            go_ret
            exact ⟨zz26, zz3⟩
          · rw [if_neg c25] at H
            have c25b0 : decide (a4 ≤ (l0_9.length : Int)) = false := decide_eq_false c25
            clear c25
            obtain rfl := Option.some.inj H
            go_enter Tryz.func63, Tryz.ntmps63
            go_wp2_with (first | ((with_reducible refine gate_dst (N := 6) rfl ?_); (try (refine gate_guard (by rfl) ?_; dsimp only)); refine box_event ?hg (N := 6) ?hd (cs := #[.int .i64 a0_0, .int .i64 a0_1, .int .i64 a0_2, .string a0_3, .int .i64 a0_4, .int .i64 a0_5, .int .i64 a0_6, .int .i64 a0_7, .string a0_8, .slice A0_9 l0_9.length c0_9]) (t := 31) ?hr ?_; (case hd => rfl); (case hg => rfl); (case hr => first | (go_simp; done) | (go_simp; rfl)); intro gb126 hg w28 hbox hb; have n0_ := Aside0.mk (below_step zz1 hb); have n1_ := Aside0.mk (hbox); have n2_ := Aside0.mk ((by rw [hg]; exact (below_size zz1) : w.heap.size ≤ gb126)); have n3_ := n2_; clear HB; have HB := n0_; have BK126 := n1_; have GW126 := n2_; have GE126 := n3_; clear n0_ n1_ n2_ n3_; clear hb hbox hg; obtain ⟨_, _, _, _, _, _, _, _, _, _, _, _, _, _, _, _, _, _, _, _⟩ := zC10 BK126.out))
            go_ret
            exact ⟨zz26, zz3⟩
        · replace c24 := Bool.eq_false_iff.mpr c24
          subst c24
          have H1 : (if a0_8.toList = ([] : List UInt8) then (if (l0_9.length : Int) ≥ a4 then (some (decide ((l0_9.length : Int) ≤ a5))) else (some false)) else (some false)) = some r := by rw [if_neg (show ¬ (false = true) by decide)] at H; exact H
          clear H
          have H := H1
          clear H1
          by_cases c30 : a0_8.toList = ([] : List UInt8)
          · rw [if_pos c30] at H
            have c30b0 : (a0_8.toList == ([] : List UInt8)) = true := beq_iff_eq.mpr c30
            have c30b1 : (a0_8.toList != ([] : List UInt8)) = false := bne_eq_false_iff_eq.mpr c30
            clear c30
            by_cases c31 : (l0_9.length : Int) ≥ a4
            · rw [if_pos c31] at H
              have c31b0 : decide (a4 ≤ (l0_9.length : Int)) = true := decide_eq_true c31
              clear c31
              obtain rfl := Option.some.inj H
              go_enter Tryz.func63, Tryz.ntmps63
              go_wp2_with (first | ((with_reducible refine gate_dst (N := 6) rfl ?_); (try (refine gate_guard (by rfl) ?_; dsimp only)); refine box_event ?hg (N := 6) ?hd (cs := #[.int .i64 a0_0, .int .i64 a0_1, .int .i64 a0_2, .string a0_3, .int .i64 a0_4, .int .i64 a0_5, .int .i64 a0_6, .int .i64 a0_7, .string a0_8, .slice A0_9 l0_9.length c0_9]) (t := 31) ?hr ?_; (case hd => rfl); (case hg => rfl); (case hr => first | (go_simp; done) | (go_simp; rfl)); intro gb126 hg w32 hbox hb; have n0_ := Aside0.mk (below_step zz1 hb); have n1_ := Aside0.mk (hbox); have n2_ := Aside0.mk ((by rw [hg]; exact (below_size zz1) : w.heap.size ≤ gb126)); have n3_ := n2_; clear HB; have HB := n0_; have BK126 := n1_; have GW126 := n2_; have GE126 := n3_; clear n0_ n1_ n2_ n3_; clear hb hbox hg; obtain ⟨_, _, _, _, _, _, _, _, _, _, _, _, _, _, _, _, _, _, _, _⟩ := zC10 BK126.out))
              go_ret
              exact ⟨zz26, zz3⟩
            · rw [if_neg c31] at H
              have c31b0 : decide (a4 ≤ (l0_9.length : Int)) = false := decide_eq_false c31
              clear c31
              obtain rfl := Option.some.inj H
              go_enter Tryz.func63, Tryz.ntmps63
              go_wp2_with (first | ((with_reducible refine gate_dst (N := 6) rfl ?_); (try (refine gate_guard (by rfl) ?_; dsimp only)); refine box_event ?hg (N := 6) ?hd (cs := #[.int .i64 a0_0, .int .i64 a0_1, .int .i64 a0_2, .string a0_3, .int .i64 a0_4, .int .i64 a0_5, .int .i64 a0_6, .int .i64 a0_7, .string a0_8, .slice A0_9 l0_9.length c0_9]) (t := 31) ?hr ?_; (case hd => rfl); (case hg => rfl); (case hr => first | (go_simp; done) | (go_simp; rfl)); intro gb126 hg w34 hbox hb; have n0_ := Aside0.mk (below_step zz1 hb); have n1_ := Aside0.mk (hbox); have n2_ := Aside0.mk ((by rw [hg]; exact (below_size zz1) : w.heap.size ≤ gb126)); have n3_ := n2_; clear HB; have HB := n0_; have BK126 := n1_; have GW126 := n2_; have GE126 := n3_; clear n0_ n1_ n2_ n3_; clear hb hbox hg; obtain ⟨_, _, _, _, _, _, _, _, _, _, _, _, _, _, _, _, _, _, _, _⟩ := zC10 BK126.out))
              go_ret
              exact ⟨zz26, zz3⟩
          · rw [if_neg c30] at H
            have c30b0 : (a0_8.toList == ([] : List UInt8)) = false := beq_eq_false_iff_ne.mpr c30
            have c30b1 : (a0_8.toList != ([] : List UInt8)) = true := bne_iff_ne.mpr c30
            obtain rfl := Option.some.inj H
            go_enter Tryz.func63, Tryz.ntmps63
            go_wp2_with (first | ((with_reducible refine gate_dst (N := 6) rfl ?_); (try (refine gate_guard (by rfl) ?_; dsimp only)); refine box_event ?hg (N := 6) ?hd (cs := #[.int .i64 a0_0, .int .i64 a0_1, .int .i64 a0_2, .string a0_3, .int .i64 a0_4, .int .i64 a0_5, .int .i64 a0_6, .int .i64 a0_7, .string a0_8, .slice A0_9 l0_9.length c0_9]) (t := 31) ?hr ?_; (case hd => rfl); (case hg => rfl); (case hr => first | (go_simp; done) | (go_simp; rfl)); intro gb126 hg w36 hbox hb; have n0_ := Aside0.mk (below_step zz1 hb); have n1_ := Aside0.mk (hbox); have n2_ := Aside0.mk ((by rw [hg]; exact (below_size zz1) : w.heap.size ≤ gb126)); have n3_ := n2_; clear HB; have HB := n0_; have BK126 := n1_; have GW126 := n2_; have GE126 := n3_; clear n0_ n1_ n2_ n3_; clear hb hbox hg; obtain ⟨_, _, _, _, _, _, _, _, _, _, _, _, _, _, _, _, _, _, _, _⟩ := zC10 BK126.out))
            go_ret
            exact ⟨zz26, zz3⟩
      · rw [if_neg c23] at H
        have c23b0 : ((a0_4 == 0 && (a0_5 == 0)) && ((a0_6 == 0 && (a0_7 == 0)))) = false := by simpa using c23
        clear c23
        obtain rfl := Option.some.inj H
        go_enter Tryz.func63, Tryz.ntmps63
        go_wp2_with (first | ((with_reducible refine gate_dst (N := 6) rfl ?_); (try (refine gate_guard (by rfl) ?_; dsimp only)); refine box_event ?hg (N := 6) ?hd (cs := #[.int .i64 a0_0, .int .i64 a0_1, .int .i64 a0_2, .string a0_3, .int .i64 a0_4, .int .i64 a0_5, .int .i64 a0_6, .int .i64 a0_7, .string a0_8, .slice A0_9 l0_9.length c0_9]) (t := 31) ?hr ?_; (case hd => rfl); (case hg => rfl); (case hr => first | (go_simp; done) | (go_simp; rfl)); intro gb126 hg w38 hbox hb; have n0_ := Aside0.mk (below_step zz1 hb); have n1_ := Aside0.mk (hbox); have n2_ := Aside0.mk ((by rw [hg]; exact (below_size zz1) : w.heap.size ≤ gb126)); have n3_ := n2_; clear HB; have HB := n0_; have BK126 := n1_; have GW126 := n2_; have GE126 := n3_; clear n0_ n1_ n2_ n3_; clear hb hbox hg; obtain ⟨_, _, _, _, _, _, _, _, _, _, _, _, _, _, _, _, _, _, _, _⟩ := zC10 BK126.out))
        go_ret
        exact ⟨zz26, zz3⟩
  · replace c7 := Bool.eq_false_iff.mpr c7
    subst c7
    have H1 : ((value_Same.f a0_1 a0_2 a0_3 0 0 (⟨#[]⟩ : ByteArray)).bind fun t127 => (if t127 = true then (if a2 = true then (if a3 = true then (if (l0_9.length : Int) ≥ a4 then (some (decide ((l0_9.length : Int) ≤ a5))) else (some false)) else (if a0_8.toList = ([] : List UInt8) then (if (l0_9.length : Int) ≥ a4 then (some (decide ((l0_9.length : Int) ≤ a5))) else (some false)) else (some false))) else (if ((a0_4 == 0 && (a0_5 == 0)) && ((a0_6 == 0 && (a0_7 == 0)))) = true then (if a3 = true then (if (l0_9.length : Int) ≥ a4 then (some (decide ((l0_9.length : Int) ≤ a5))) else (some false)) else (if a0_8.toList = ([] : List UInt8) then (if (l0_9.length : Int) ≥ a4 then (some (decide ((l0_9.length : Int) ≤ a5))) else (some false)) else (some false))) else (some false))) else (some false))) = some r := by rw [if_neg (show ¬ (false = true) by decide)] at H; exact H
    clear H
    have H := H1
    clear H1
    replace H := Option.bind_eq_some_iff.mp H
    obtain ⟨t127, A400, H⟩ := H
    replace H : (if t127 = true then (if a2 = true then (if a3 = true then (if (l0_9.length : Int) ≥ a4 then (some (decide ((l0_9.length : Int) ≤ a5))) else (some false)) else (if a0_8.toList = ([] : List UInt8) then (if (l0_9.length : Int) ≥ a4 then (some (decide ((l0_9.length : Int) ≤ a5))) else (some false)) else (some false))) else (if ((a0_4 == 0 && (a0_5 == 0)) && ((a0_6 == 0 && (a0_7 == 0)))) = true then (if a3 = true then (if (l0_9.length : Int) ≥ a4 then (some (decide ((l0_9.length : Int) ≤ a5))) else (some false)) else (if a0_8.toList = ([] : List UInt8) then (if (l0_9.length : Int) ≥ a4 then (some (decide ((l0_9.length : Int) ≤ a5))) else (some false)) else (some false))) else (some false))) else (some false)) = some r := H
    have A40 := Aside0.mk A400
    clear A400
    by_cases c41 : t127 = true
    · subst c41
      have H1 : (if a2 = true then (if a3 = true then (if (l0_9.length : Int) ≥ a4 then (some (decide ((l0_9.length : Int) ≤ a5))) else (some false)) else (if a0_8.toList = ([] : List UInt8) then (if (l0_9.length : Int) ≥ a4 then (some (decide ((l0_9.length : Int) ≤ a5))) else (some false)) else (some false))) else (if ((a0_4 == 0 && (a0_5 == 0)) && ((a0_6 == 0 && (a0_7 == 0)))) = true then (if a3 = true then (if (l0_9.length : Int) ≥ a4 then (some (decide ((l0_9.length : Int) ≤ a5))) else (some false)) else (if a0_8.toList = ([] : List UInt8) then (if (l0_9.length : Int) ≥ a4 then (some (decide ((l0_9.length : Int) ≤ a5))) else (some false)) else (some false))) else (some false))) = some r := by rw [if_pos rfl] at H; exact H
      clear H
      have H := H1
      clear H1
      by_cases c42 : a2 = true
      · subst c42
        have H1 : (if a3 = true then (if (l0_9.length : Int) ≥ a4 then (some (decide ((l0_9.length : Int) ≤ a5))) else (some false)) else (if a0_8.toList = ([] : List UInt8) then (if (l0_9.length : Int) ≥ a4 then (some (decide ((l0_9.length : Int) ≤ a5))) else (some false)) else (some false))) = some r := by rw [if_pos rfl] at H; exact H
        clear H
        have H := H1
        clear H1
        by_cases c43 : a3 = true
        · subst c43
          have H1 : (if (l0_9.length : Int) ≥ a4 then (some (decide ((l0_9.length : Int) ≤ a5))) else (some false)) = some r := by rw [if_pos rfl] at H; exact H
          clear H
          have H := H1
          clear H1
          by_cases c44 : (l0_9.length : Int) ≥ a4
          · rw [if_pos c44] at H
            have c44b0 : decide (a4 ≤ (l0_9.length : Int)) = true := decide_eq_true c44
            clear c44
            obtain rfl := Option.some.inj H
            go_enter Tryz.func63, Tryz.ntmps63
            go_wp2_with (first | ((with_reducible refine gate_dst (N := 6) rfl ?_); (try (refine gate_guard (by rfl) ?_; dsimp only)); refine box_event ?hg (N := 6) ?hd (cs := #[.int .i64 a0_0, .int .i64 a0_1, .int .i64 a0_2, .string a0_3, .int .i64 a0_4, .int .i64 a0_5, .int .i64 a0_6, .int .i64 a0_7, .string a0_8, .slice A0_9 l0_9.length c0_9]) (t := 31) ?hr ?_; (case hd => rfl); (case hg => rfl); (case hr => first | (go_simp; done) | (go_simp; rfl)); intro gb126 hg w45 hbox hb; have n0_ := Aside0.mk (below_step zz1 hb); have n1_ := Aside0.mk (hbox); have n2_ := Aside0.mk ((by rw [hg]; exact (below_size zz1) : w.heap.size ≤ gb126)); have n3_ := n2_; clear HB; have HB := n0_; have BK126 := n1_; have GW126 := n2_; have GE126 := n3_; clear n0_ n1_ n2_ n3_; clear hb hbox hg; obtain ⟨_, _, _, _, _, _, _, _, _, _, _, _, _, _, _, _, _, _, _, _⟩ := zC10 BK126.out) | (go_at_call 17; (with_reducible refine (value_Same.calls a0_1 a0_2 a0_3 0 0 (⟨#[]⟩ : ByteArray) true _ A40.out).mono ?_); rintro e w47 ⟨rfl, hb⟩; have n0_ := Aside0.mk (blk_below (g := gb126) (o := .cells #[.int .i64 a0_0, .int .i64 a0_1, .int .i64 a0_2, .string a0_3, .int .i64 a0_4, .int .i64 a0_5, .int .i64 a0_6, .int .i64 a0_7, .string a0_8, .slice A0_9 l0_9.length c0_9] 31 (0, 0)) (zB BK126.out) hb); have n1_ := Aside0.mk (below_step zz3 hb); clear BK126; clear HB; have BK126 := n0_; have HB := n1_; clear n0_ n1_; (try clear hb); (try clear hb2); (try clear hk); (try clear hi); obtain ⟨_, _, _, _, _, _, _, _, _, _, _, _, _, _, _, _, _, _, _, _⟩ := zC10 BK126.out))
            go_ret
            exact ⟨zz26, zz3⟩
          · rw [if_neg c44] at H
            have c44b0 : decide (a4 ≤ (l0_9.length : Int)) = false := decide_eq_false c44
            clear c44
            obtain rfl := Option.some.inj H
            go_enter Tryz.func63, Tryz.ntmps63
            go_wp2_with (first | ((with_reducible refine gate_dst (N := 6) rfl ?_); (try (refine gate_guard (by rfl) ?_; dsimp only)); refine box_event ?hg (N := 6) ?hd (cs := #[.int .i64 a0_0, .int .i64 a0_1, .int .i64 a0_2, .string a0_3, .int .i64 a0_4, .int .i64 a0_5, .int .i64 a0_6, .int .i64 a0_7, .string a0_8, .slice A0_9 l0_9.length c0_9]) (t := 31) ?hr ?_; (case hd => rfl); (case hg => rfl); (case hr => first | (go_simp; done) | (go_simp; rfl)); intro gb126 hg w49 hbox hb; have n0_ := Aside0.mk (below_step zz1 hb); have n1_ := Aside0.mk (hbox); have n2_ := Aside0.mk ((by rw [hg]; exact (below_size zz1) : w.heap.size ≤ gb126)); have n3_ := n2_; clear HB; have HB := n0_; have BK126 := n1_; have GW126 := n2_; have GE126 := n3_; clear n0_ n1_ n2_ n3_; clear hb hbox hg; obtain ⟨_, _, _, _, _, _, _, _, _, _, _, _, _, _, _, _, _, _, _, _⟩ := zC10 BK126.out) | (go_at_call 17; (with_reducible refine (value_Same.calls a0_1 a0_2 a0_3 0 0 (⟨#[]⟩ : ByteArray) true _ A40.out).mono ?_); rintro e w51 ⟨rfl, hb⟩; have n0_ := Aside0.mk (blk_below (g := gb126) (o := .cells #[.int .i64 a0_0, .int .i64 a0_1, .int .i64 a0_2, .string a0_3, .int .i64 a0_4, .int .i64 a0_5, .int .i64 a0_6, .int .i64 a0_7, .string a0_8, .slice A0_9 l0_9.length c0_9] 31 (0, 0)) (zB BK126.out) hb); have n1_ := Aside0.mk (below_step zz3 hb); clear BK126; clear HB; have BK126 := n0_; have HB := n1_; clear n0_ n1_; (try clear hb); (try clear hb2); (try clear hk); (try clear hi); obtain ⟨_, _, _, _, _, _, _, _, _, _, _, _, _, _, _, _, _, _, _, _⟩ := zC10 BK126.out))
            go_ret
            exact ⟨zz26, zz3⟩
        · replace c43 := Bool.eq_false_iff.mpr c43
          subst c43
          have H1 : (if a0_8.toList = ([] : List UInt8) then (if (l0_9.length : Int) ≥ a4 then (some (decide ((l0_9.length : Int) ≤ a5))) else (some false)) else (some false)) = some r := by rw [if_neg (show ¬ (false = true) by decide)] at H; exact H
          clear H
          have H := H1
          clear H1
          by_cases c53 : a0_8.toList = ([] : List UInt8)
          · rw [if_pos c53] at H
            have c53b0 : (a0_8.toList == ([] : List UInt8)) = true := beq_iff_eq.mpr c53
            have c53b1 : (a0_8.toList != ([] : List UInt8)) = false := bne_eq_false_iff_eq.mpr c53
            clear c53
            by_cases c54 : (l0_9.length : Int) ≥ a4
            · rw [if_pos c54] at H
              have c54b0 : decide (a4 ≤ (l0_9.length : Int)) = true := decide_eq_true c54
              clear c54
              obtain rfl := Option.some.inj H
              go_enter Tryz.func63, Tryz.ntmps63
              go_wp2_with (first | ((with_reducible refine gate_dst (N := 6) rfl ?_); (try (refine gate_guard (by rfl) ?_; dsimp only)); refine box_event ?hg (N := 6) ?hd (cs := #[.int .i64 a0_0, .int .i64 a0_1, .int .i64 a0_2, .string a0_3, .int .i64 a0_4, .int .i64 a0_5, .int .i64 a0_6, .int .i64 a0_7, .string a0_8, .slice A0_9 l0_9.length c0_9]) (t := 31) ?hr ?_; (case hd => rfl); (case hg => rfl); (case hr => first | (go_simp; done) | (go_simp; rfl)); intro gb126 hg w55 hbox hb; have n0_ := Aside0.mk (below_step zz1 hb); have n1_ := Aside0.mk (hbox); have n2_ := Aside0.mk ((by rw [hg]; exact (below_size zz1) : w.heap.size ≤ gb126)); have n3_ := n2_; clear HB; have HB := n0_; have BK126 := n1_; have GW126 := n2_; have GE126 := n3_; clear n0_ n1_ n2_ n3_; clear hb hbox hg; obtain ⟨_, _, _, _, _, _, _, _, _, _, _, _, _, _, _, _, _, _, _, _⟩ := zC10 BK126.out) | (go_at_call 17; (with_reducible refine (value_Same.calls a0_1 a0_2 a0_3 0 0 (⟨#[]⟩ : ByteArray) true _ A40.out).mono ?_); rintro e w57 ⟨rfl, hb⟩; have n0_ := Aside0.mk (blk_below (g := gb126) (o := .cells #[.int .i64 a0_0, .int .i64 a0_1, .int .i64 a0_2, .string a0_3, .int .i64 a0_4, .int .i64 a0_5, .int .i64 a0_6, .int .i64 a0_7, .string a0_8, .slice A0_9 l0_9.length c0_9] 31 (0, 0)) (zB BK126.out) hb); have n1_ := Aside0.mk (below_step zz3 hb); clear BK126; clear HB; have BK126 := n0_; have HB := n1_; clear n0_ n1_; (try clear hb); (try clear hb2); (try clear hk); (try clear hi); obtain ⟨_, _, _, _, _, _, _, _, _, _, _, _, _, _, _, _, _, _, _, _⟩ := zC10 BK126.out))
              go_ret
              exact ⟨zz26, zz3⟩
            · rw [if_neg c54] at H
              have c54b0 : decide (a4 ≤ (l0_9.length : Int)) = false := decide_eq_false c54
              clear c54
              obtain rfl := Option.some.inj H
              go_enter Tryz.func63, Tryz.ntmps63
              go_wp2_with (first | ((with_reducible refine gate_dst (N := 6) rfl ?_); (try (refine gate_guard (by rfl) ?_; dsimp only)); refine box_event ?hg (N := 6) ?hd (cs := #[.int .i64 a0_0, .int .i64 a0_1, .int .i64 a0_2, .string a0_3, .int .i64 a0_4, .int .i64 a0_5, .int .i64 a0_6, .int .i64 a0_7, .string a0_8, .slice A0_9 l0_9.length c0_9]) (t := 31) ?hr ?_; (case hd => rfl); (case hg => rfl); (case hr => first | (go_simp; done) | (go_simp; rfl)); intro gb126 hg w59 hbox hb; have n0_ := Aside0.mk (below_step zz1 hb); have n1_ := Aside0.mk (hbox); have n2_ := Aside0.mk ((by rw [hg]; exact (below_size zz1) : w.heap.size ≤ gb126)); have n3_ := n2_; clear HB; have HB := n0_; have BK126 := n1_; have GW126 := n2_; have GE126 := n3_; clear n0_ n1_ n2_ n3_; clear hb hbox hg; obtain ⟨_, _, _, _, _, _, _, _, _, _, _, _, _, _, _, _, _, _, _, _⟩ := zC10 BK126.out) | (go_at_call 17; (with_reducible refine (value_Same.calls a0_1 a0_2 a0_3 0 0 (⟨#[]⟩ : ByteArray) true _ A40.out).mono ?_); rintro e w61 ⟨rfl, hb⟩; have n0_ := Aside0.mk (blk_below (g := gb126) (o := .cells #[.int .i64 a0_0, .int .i64 a0_1, .int .i64 a0_2, .string a0_3, .int .i64 a0_4, .int .i64 a0_5, .int .i64 a0_6, .int .i64 a0_7, .string a0_8, .slice A0_9 l0_9.length c0_9] 31 (0, 0)) (zB BK126.out) hb); have n1_ := Aside0.mk (below_step zz3 hb); clear BK126; clear HB; have BK126 := n0_; have HB := n1_; clear n0_ n1_; (try clear hb); (try clear hb2); (try clear hk); (try clear hi); obtain ⟨_, _, _, _, _, _, _, _, _, _, _, _, _, _, _, _, _, _, _, _⟩ := zC10 BK126.out))
              go_ret
              exact ⟨zz26, zz3⟩
          · rw [if_neg c53] at H
            have c53b0 : (a0_8.toList == ([] : List UInt8)) = false := beq_eq_false_iff_ne.mpr c53
            have c53b1 : (a0_8.toList != ([] : List UInt8)) = true := bne_iff_ne.mpr c53
            obtain rfl := Option.some.inj H
            go_enter Tryz.func63, Tryz.ntmps63
            go_wp2_with (first | ((with_reducible refine gate_dst (N := 6) rfl ?_); (try (refine gate_guard (by rfl) ?_; dsimp only)); refine box_event ?hg (N := 6) ?hd (cs := #[.int .i64 a0_0, .int .i64 a0_1, .int .i64 a0_2, .string a0_3, .int .i64 a0_4, .int .i64 a0_5, .int .i64 a0_6, .int .i64 a0_7, .string a0_8, .slice A0_9 l0_9.length c0_9]) (t := 31) ?hr ?_; (case hd => rfl); (case hg => rfl); (case hr => first | (go_simp; done) | (go_simp; rfl)); intro gb126 hg w63 hbox hb; have n0_ := Aside0.mk (below_step zz1 hb); have n1_ := Aside0.mk (hbox); have n2_ := Aside0.mk ((by rw [hg]; exact (below_size zz1) : w.heap.size ≤ gb126)); have n3_ := n2_; clear HB; have HB := n0_; have BK126 := n1_; have GW126 := n2_; have GE126 := n3_; clear n0_ n1_ n2_ n3_; clear hb hbox hg; obtain ⟨_, _, _, _, _, _, _, _, _, _, _, _, _, _, _, _, _, _, _, _⟩ := zC10 BK126.out) | (go_at_call 17; (with_reducible refine (value_Same.calls a0_1 a0_2 a0_3 0 0 (⟨#[]⟩ : ByteArray) true _ A40.out).mono ?_); rintro e w65 ⟨rfl, hb⟩; have n0_ := Aside0.mk (blk_below (g := gb126) (o := .cells #[.int .i64 a0_0, .int .i64 a0_1, .int .i64 a0_2, .string a0_3, .int .i64 a0_4, .int .i64 a0_5, .int .i64 a0_6, .int .i64 a0_7, .string a0_8, .slice A0_9 l0_9.length c0_9] 31 (0, 0)) (zB BK126.out) hb); have n1_ := Aside0.mk (below_step zz3 hb); clear BK126; clear HB; have BK126 := n0_; have HB := n1_; clear n0_ n1_; (try clear hb); (try clear hb2); (try clear hk); (try clear hi); obtain ⟨_, _, _, _, _, _, _, _, _, _, _, _, _, _, _, _, _, _, _, _⟩ := zC10 BK126.out))
            go_ret
            exact ⟨zz26, zz3⟩
      · replace c42 := Bool.eq_false_iff.mpr c42
        subst c42
        have H1 : (if ((a0_4 == 0 && (a0_5 == 0)) && ((a0_6 == 0 && (a0_7 == 0)))) = true then (if a3 = true then (if (l0_9.length : Int) ≥ a4 then (some (decide ((l0_9.length : Int) ≤ a5))) else (some false)) else (if a0_8.toList = ([] : List UInt8) then (if (l0_9.length : Int) ≥ a4 then (some (decide ((l0_9.length : Int) ≤ a5))) else (some false)) else (some false))) else (some false)) = some r := by rw [if_neg (show ¬ (false = true) by decide)] at H; exact H
        clear H
        have H := H1
        clear H1
        by_cases c67 : ((a0_4 == 0 && (a0_5 == 0)) && ((a0_6 == 0 && (a0_7 == 0)))) = true
        · rw [if_pos c67] at H
          have c67b0 : ((a0_4 == 0 && (a0_5 == 0)) && ((a0_6 == 0 && (a0_7 == 0)))) = true := c67
          clear c67
          by_cases c68 : a3 = true
          · subst c68
            have H1 : (if (l0_9.length : Int) ≥ a4 then (some (decide ((l0_9.length : Int) ≤ a5))) else (some false)) = some r := by rw [if_pos rfl] at H; exact H
            clear H
            have H := H1
            clear H1
            by_cases c69 : (l0_9.length : Int) ≥ a4
            · rw [if_pos c69] at H
              have c69b0 : decide (a4 ≤ (l0_9.length : Int)) = true := decide_eq_true c69
              clear c69
              obtain rfl := Option.some.inj H
              go_enter Tryz.func63, Tryz.ntmps63
              go_wp2_with (first | ((with_reducible refine gate_dst (N := 6) rfl ?_); (try (refine gate_guard (by rfl) ?_; dsimp only)); refine box_event ?hg (N := 6) ?hd (cs := #[.int .i64 a0_0, .int .i64 a0_1, .int .i64 a0_2, .string a0_3, .int .i64 a0_4, .int .i64 a0_5, .int .i64 a0_6, .int .i64 a0_7, .string a0_8, .slice A0_9 l0_9.length c0_9]) (t := 31) ?hr ?_; (case hd => rfl); (case hg => rfl); (case hr => first | (go_simp; done) | (go_simp; rfl)); intro gb126 hg w70 hbox hb; have n0_ := Aside0.mk (below_step zz1 hb); have n1_ := Aside0.mk (hbox); have n2_ := Aside0.mk ((by rw [hg]; exact (below_size zz1) : w.heap.size ≤ gb126)); have n3_ := n2_; clear HB; have HB := n0_; have BK126 := n1_; have GW126 := n2_; have GE126 := n3_; clear n0_ n1_ n2_ n3_; clear hb hbox hg; obtain ⟨_, _, _, _, _, _, _, _, _, _, _, _, _, _, _, _, _, _, _, _⟩ := zC10 BK126.out) | (go_at_call 17; (with_reducible refine (value_Same.calls a0_1 a0_2 a0_3 0 0 (⟨#[]⟩ : ByteArray) true _ A40.out).mono ?_); rintro e w72 ⟨rfl, hb⟩; have n0_ := Aside0.mk (blk_below (g := gb126) (o := .cells #[.int .i64 a0_0, .int .i64 a0_1, .int .i64 a0_2, .string a0_3, .int .i64 a0_4, .int .i64 a0_5, .int .i64 a0_6, .int .i64 a0_7, .string a0_8, .slice A0_9 l0_9.length c0_9] 31 (0, 0)) (zB BK126.out) hb); have n1_ := Aside0.mk (below_step zz3 hb); clear BK126; clear HB; have BK126 := n0_; have HB := n1_; clear n0_ n1_; (try clear hb); (try clear hb2); (try clear hk); (try clear hi); obtain ⟨_, _, _, _, _, _, _, _, _, _, _, _, _, _, _, _, _, _, _, _⟩ := zC10 BK126.out))
              go_ret
              exact ⟨zz26, zz3⟩
            · rw [if_neg c69] at H
              have c69b0 : decide (a4 ≤ (l0_9.length : Int)) = false := decide_eq_false c69
              clear c69
              obtain rfl := Option.some.inj H
              go_enter Tryz.func63, Tryz.ntmps63
              go_wp2_with (first | ((with_reducible refine gate_dst (N := 6) rfl ?_); (try (refine gate_guard (by rfl) ?_; dsimp only)); refine box_event ?hg (N := 6) ?hd (cs := #[.int .i64 a0_0, .int .i64 a0_1, .int .i64 a0_2, .string a0_3, .int .i64 a0_4, .int .i64 a0_5, .int .i64 a0_6, .int .i64 a0_7, .string a0_8, .slice A0_9 l0_9.length c0_9]) (t := 31) ?hr ?_; (case hd => rfl); (case hg => rfl); (case hr => first | (go_simp; done) | (go_simp; rfl)); intro gb126 hg w74 hbox hb; have n0_ := Aside0.mk (below_step zz1 hb); have n1_ := Aside0.mk (hbox); have n2_ := Aside0.mk ((by rw [hg]; exact (below_size zz1) : w.heap.size ≤ gb126)); have n3_ := n2_; clear HB; have HB := n0_; have BK126 := n1_; have GW126 := n2_; have GE126 := n3_; clear n0_ n1_ n2_ n3_; clear hb hbox hg; obtain ⟨_, _, _, _, _, _, _, _, _, _, _, _, _, _, _, _, _, _, _, _⟩ := zC10 BK126.out) | (go_at_call 17; (with_reducible refine (value_Same.calls a0_1 a0_2 a0_3 0 0 (⟨#[]⟩ : ByteArray) true _ A40.out).mono ?_); rintro e w76 ⟨rfl, hb⟩; have n0_ := Aside0.mk (blk_below (g := gb126) (o := .cells #[.int .i64 a0_0, .int .i64 a0_1, .int .i64 a0_2, .string a0_3, .int .i64 a0_4, .int .i64 a0_5, .int .i64 a0_6, .int .i64 a0_7, .string a0_8, .slice A0_9 l0_9.length c0_9] 31 (0, 0)) (zB BK126.out) hb); have n1_ := Aside0.mk (below_step zz3 hb); clear BK126; clear HB; have BK126 := n0_; have HB := n1_; clear n0_ n1_; (try clear hb); (try clear hb2); (try clear hk); (try clear hi); obtain ⟨_, _, _, _, _, _, _, _, _, _, _, _, _, _, _, _, _, _, _, _⟩ := zC10 BK126.out))
              go_ret
              exact ⟨zz26, zz3⟩
          · replace c68 := Bool.eq_false_iff.mpr c68
            subst c68
            have H1 : (if a0_8.toList = ([] : List UInt8) then (if (l0_9.length : Int) ≥ a4 then (some (decide ((l0_9.length : Int) ≤ a5))) else (some false)) else (some false)) = some r := by rw [if_neg (show ¬ (false = true) by decide)] at H; exact H
            clear H
            have H := H1
            clear H1
            by_cases c78 : a0_8.toList = ([] : List UInt8)
            · rw [if_pos c78] at H
              have c78b0 : (a0_8.toList == ([] : List UInt8)) = true := beq_iff_eq.mpr c78
              have c78b1 : (a0_8.toList != ([] : List UInt8)) = false := bne_eq_false_iff_eq.mpr c78
              clear c78
              by_cases c79 : (l0_9.length : Int) ≥ a4
              · rw [if_pos c79] at H
                have c79b0 : decide (a4 ≤ (l0_9.length : Int)) = true := decide_eq_true c79
                clear c79
                obtain rfl := Option.some.inj H
                go_enter Tryz.func63, Tryz.ntmps63
                go_wp2_with (first | ((with_reducible refine gate_dst (N := 6) rfl ?_); (try (refine gate_guard (by rfl) ?_; dsimp only)); refine box_event ?hg (N := 6) ?hd (cs := #[.int .i64 a0_0, .int .i64 a0_1, .int .i64 a0_2, .string a0_3, .int .i64 a0_4, .int .i64 a0_5, .int .i64 a0_6, .int .i64 a0_7, .string a0_8, .slice A0_9 l0_9.length c0_9]) (t := 31) ?hr ?_; (case hd => rfl); (case hg => rfl); (case hr => first | (go_simp; done) | (go_simp; rfl)); intro gb126 hg w80 hbox hb; have n0_ := Aside0.mk (below_step zz1 hb); have n1_ := Aside0.mk (hbox); have n2_ := Aside0.mk ((by rw [hg]; exact (below_size zz1) : w.heap.size ≤ gb126)); have n3_ := n2_; clear HB; have HB := n0_; have BK126 := n1_; have GW126 := n2_; have GE126 := n3_; clear n0_ n1_ n2_ n3_; clear hb hbox hg; obtain ⟨_, _, _, _, _, _, _, _, _, _, _, _, _, _, _, _, _, _, _, _⟩ := zC10 BK126.out) | (go_at_call 17; (with_reducible refine (value_Same.calls a0_1 a0_2 a0_3 0 0 (⟨#[]⟩ : ByteArray) true _ A40.out).mono ?_); rintro e w82 ⟨rfl, hb⟩; have n0_ := Aside0.mk (blk_below (g := gb126) (o := .cells #[.int .i64 a0_0, .int .i64 a0_1, .int .i64 a0_2, .string a0_3, .int .i64 a0_4, .int .i64 a0_5, .int .i64 a0_6, .int .i64 a0_7, .string a0_8, .slice A0_9 l0_9.length c0_9] 31 (0, 0)) (zB BK126.out) hb); have n1_ := Aside0.mk (below_step zz3 hb); clear BK126; clear HB; have BK126 := n0_; have HB := n1_; clear n0_ n1_; (try clear hb); (try clear hb2); (try clear hk); (try clear hi); obtain ⟨_, _, _, _, _, _, _, _, _, _, _, _, _, _, _, _, _, _, _, _⟩ := zC10 BK126.out))
                go_ret
                exact ⟨zz26, zz3⟩
              · rw [if_neg c79] at H
                have c79b0 : decide (a4 ≤ (l0_9.length : Int)) = false := decide_eq_false c79
                clear c79
                obtain rfl := Option.some.inj H
                go_enter Tryz.func63, Tryz.ntmps63
                go_wp2_with (first | ((with_reducible refine gate_dst (N := 6) rfl ?_); (try (refine gate_guard (by rfl) ?_; dsimp only)); refine box_event ?hg (N := 6) ?hd (cs := #[.int .i64 a0_0, .int .i64 a0_1, .int .i64 a0_2, .string a0_3, .int .i64 a0_4, .int .i64 a0_5, .int .i64 a0_6, .int .i64 a0_7, .string a0_8, .slice A0_9 l0_9.length c0_9]) (t := 31) ?hr ?_; (case hd => rfl); (case hg => rfl); (case hr => first | (go_simp; done) | (go_simp; rfl)); intro gb126 hg w84 hbox hb; have n0_ := Aside0.mk (below_step zz1 hb); have n1_ := Aside0.mk (hbox); have n2_ := Aside0.mk ((by rw [hg]; exact (below_size zz1) : w.heap.size ≤ gb126)); have n3_ := n2_; clear HB; have HB := n0_; have BK126 := n1_; have GW126 := n2_; have GE126 := n3_; clear n0_ n1_ n2_ n3_; clear hb hbox hg; obtain ⟨_, _, _, _, _, _, _, _, _, _, _, _, _, _, _, _, _, _, _, _⟩ := zC10 BK126.out) | (go_at_call 17; (with_reducible refine (value_Same.calls a0_1 a0_2 a0_3 0 0 (⟨#[]⟩ : ByteArray) true _ A40.out).mono ?_); rintro e w86 ⟨rfl, hb⟩; have n0_ := Aside0.mk (blk_below (g := gb126) (o := .cells #[.int .i64 a0_0, .int .i64 a0_1, .int .i64 a0_2, .string a0_3, .int .i64 a0_4, .int .i64 a0_5, .int .i64 a0_6, .int .i64 a0_7, .string a0_8, .slice A0_9 l0_9.length c0_9] 31 (0, 0)) (zB BK126.out) hb); have n1_ := Aside0.mk (below_step zz3 hb); clear BK126; clear HB; have BK126 := n0_; have HB := n1_; clear n0_ n1_; (try clear hb); (try clear hb2); (try clear hk); (try clear hi); obtain ⟨_, _, _, _, _, _, _, _, _, _, _, _, _, _, _, _, _, _, _, _⟩ := zC10 BK126.out))
                go_ret
                exact ⟨zz26, zz3⟩
            · rw [if_neg c78] at H
              have c78b0 : (a0_8.toList == ([] : List UInt8)) = false := beq_eq_false_iff_ne.mpr c78
              have c78b1 : (a0_8.toList != ([] : List UInt8)) = true := bne_iff_ne.mpr c78
              obtain rfl := Option.some.inj H
              go_enter Tryz.func63, Tryz.ntmps63
              go_wp2_with (first | ((with_reducible refine gate_dst (N := 6) rfl ?_); (try (refine gate_guard (by rfl) ?_; dsimp only)); refine box_event ?hg (N := 6) ?hd (cs := #[.int .i64 a0_0, .int .i64 a0_1, .int .i64 a0_2, .string a0_3, .int .i64 a0_4, .int .i64 a0_5, .int .i64 a0_6, .int .i64 a0_7, .string a0_8, .slice A0_9 l0_9.length c0_9]) (t := 31) ?hr ?_; (case hd => rfl); (case hg => rfl); (case hr => first | (go_simp; done) | (go_simp; rfl)); intro gb126 hg w88 hbox hb; have n0_ := Aside0.mk (below_step zz1 hb); have n1_ := Aside0.mk (hbox); have n2_ := Aside0.mk ((by rw [hg]; exact (below_size zz1) : w.heap.size ≤ gb126)); have n3_ := n2_; clear HB; have HB := n0_; have BK126 := n1_; have GW126 := n2_; have GE126 := n3_; clear n0_ n1_ n2_ n3_; clear hb hbox hg; obtain ⟨_, _, _, _, _, _, _, _, _, _, _, _, _, _, _, _, _, _, _, _⟩ := zC10 BK126.out) | (go_at_call 17; (with_reducible refine (value_Same.calls a0_1 a0_2 a0_3 0 0 (⟨#[]⟩ : ByteArray) true _ A40.out).mono ?_); rintro e w90 ⟨rfl, hb⟩; have n0_ := Aside0.mk (blk_below (g := gb126) (o := .cells #[.int .i64 a0_0, .int .i64 a0_1, .int .i64 a0_2, .string a0_3, .int .i64 a0_4, .int .i64 a0_5, .int .i64 a0_6, .int .i64 a0_7, .string a0_8, .slice A0_9 l0_9.length c0_9] 31 (0, 0)) (zB BK126.out) hb); have n1_ := Aside0.mk (below_step zz3 hb); clear BK126; clear HB; have BK126 := n0_; have HB := n1_; clear n0_ n1_; (try clear hb); (try clear hb2); (try clear hk); (try clear hi); obtain ⟨_, _, _, _, _, _, _, _, _, _, _, _, _, _, _, _, _, _, _, _⟩ := zC10 BK126.out))
              go_ret
              exact ⟨zz26, zz3⟩
        · rw [if_neg c67] at H
          have c67b0 : ((a0_4 == 0 && (a0_5 == 0)) && ((a0_6 == 0 && (a0_7 == 0)))) = false := by simpa using c67
          clear c67
          obtain rfl := Option.some.inj H
          go_enter Tryz.func63, Tryz.ntmps63
          go_wp2_with (first | ((with_reducible refine gate_dst (N := 6) rfl ?_); (try (refine gate_guard (by rfl) ?_; dsimp only)); refine box_event ?hg (N := 6) ?hd (cs := #[.int .i64 a0_0, .int .i64 a0_1, .int .i64 a0_2, .string a0_3, .int .i64 a0_4, .int .i64 a0_5, .int .i64 a0_6, .int .i64 a0_7, .string a0_8, .slice A0_9 l0_9.length c0_9]) (t := 31) ?hr ?_; (case hd => rfl); (case hg => rfl); (case hr => first | (go_simp; done) | (go_simp; rfl)); intro gb126 hg w92 hbox hb; have n0_ := Aside0.mk (below_step zz1 hb); have n1_ := Aside0.mk (hbox); have n2_ := Aside0.mk ((by rw [hg]; exact (below_size zz1) : w.heap.size ≤ gb126)); have n3_ := n2_; clear HB; have HB := n0_; have BK126 := n1_; have GW126 := n2_; have GE126 := n3_; clear n0_ n1_ n2_ n3_; clear hb hbox hg; obtain ⟨_, _, _, _, _, _, _, _, _, _, _, _, _, _, _, _, _, _, _, _⟩ := zC10 BK126.out) | (go_at_call 17; (with_reducible refine (value_Same.calls a0_1 a0_2 a0_3 0 0 (⟨#[]⟩ : ByteArray) true _ A40.out).mono ?_); rintro e w94 ⟨rfl, hb⟩; have n0_ := Aside0.mk (blk_below (g := gb126) (o := .cells #[.int .i64 a0_0, .int .i64 a0_1, .int .i64 a0_2, .string a0_3, .int .i64 a0_4, .int .i64 a0_5, .int .i64 a0_6, .int .i64 a0_7, .string a0_8, .slice A0_9 l0_9.length c0_9] 31 (0, 0)) (zB BK126.out) hb); have n1_ := Aside0.mk (below_step zz3 hb); clear BK126; clear HB; have BK126 := n0_; have HB := n1_; clear n0_ n1_; (try clear hb); (try clear hb2); (try clear hk); (try clear hi); obtain ⟨_, _, _, _, _, _, _, _, _, _, _, _, _, _, _, _, _, _, _, _⟩ := zC10 BK126.out))
          go_ret
          exact ⟨zz26, zz3⟩
    · replace c41 := Bool.eq_false_iff.mpr c41
      subst c41
      have H1 : (some false) = some r := by rw [if_neg (show ¬ (false = true) by decide)] at H; exact H
      clear H
      have H := H1
      clear H1
      obtain rfl := Option.some.inj H
      go_enter Tryz.func63, Tryz.ntmps63
      go_wp2_with (first | ((with_reducible refine gate_dst (N := 6) rfl ?_); (try (refine gate_guard (by rfl) ?_; dsimp only)); refine box_event ?hg (N := 6) ?hd (cs := #[.int .i64 a0_0, .int .i64 a0_1, .int .i64 a0_2, .string a0_3, .int .i64 a0_4, .int .i64 a0_5, .int .i64 a0_6, .int .i64 a0_7, .string a0_8, .slice A0_9 l0_9.length c0_9]) (t := 31) ?hr ?_; (case hd => rfl); (case hg => rfl); (case hr => first | (go_simp; done) | (go_simp; rfl)); intro gb126 hg w96 hbox hb; have n0_ := Aside0.mk (below_step zz1 hb); have n1_ := Aside0.mk (hbox); have n2_ := Aside0.mk ((by rw [hg]; exact (below_size zz1) : w.heap.size ≤ gb126)); have n3_ := n2_; clear HB; have HB := n0_; have BK126 := n1_; have GW126 := n2_; have GE126 := n3_; clear n0_ n1_ n2_ n3_; clear hb hbox hg; obtain ⟨_, _, _, _, _, _, _, _, _, _, _, _, _, _, _, _, _, _, _, _⟩ := zC10 BK126.out) | (go_at_call 17; (with_reducible refine (value_Same.calls a0_1 a0_2 a0_3 0 0 (⟨#[]⟩ : ByteArray) false _ A40.out).mono ?_); rintro e w98 ⟨rfl, hb⟩; have n0_ := Aside0.mk (blk_below (g := gb126) (o := .cells #[.int .i64 a0_0, .int .i64 a0_1, .int .i64 a0_2, .string a0_3, .int .i64 a0_4, .int .i64 a0_5, .int .i64 a0_6, .int .i64 a0_7, .string a0_8, .slice A0_9 l0_9.length c0_9] 31 (0, 0)) (zB BK126.out) hb); have n1_ := Aside0.mk (below_step zz3 hb); clear BK126; clear HB; have BK126 := n0_; have HB := n1_; clear n0_ n1_; (try clear hb); (try clear hb2); (try clear hk); (try clear hi)))
      go_ret
      exact ⟨zz26, zz3⟩
end Go.Proofs.YtnomfbmebafolaaGreatDoor.P

namespace Go.Proofs.YtnomfbmebafolaaGreatDoor.P
open Go.RowKit Go.Proofs.YtnomfbmebafolaaGreatDoorW.PrintWords Go.Proofs.YtnomfbmebafolaaGreatDoorW.PrintLast Go.Proofs.YtnomfbmebafolaaGreatDoorW.PrintMore
attribute [local go_sem] max2_int min2_int max_two min_two max_three min_three max_four min_four   -- for this text's walks alone
set_option linter.unusedVariables false
set_option linter.unusedSimpArgs false
def addr_Fine.f (a0_0 : Int) (a0_1 : Int) (a0_2 : Int) (a0_3 : Int) : Option (Bool) := (addr_Good.f a0_0 a0_1).bind fun t129 => (if t129 = true then ((addr_Good.f a0_2 a0_3).bind fun t130 => (if t130 = true then (if a0_0 ≤ a0_2 then (some (decide (a0_1 ≤ a0_3))) else (some false)) else (some false))) else (some false))
set_option maxHeartbeats 8000000 in
set_option maxRecDepth 100000 in
theorem addr_Fine.calls (a0_0 : Int) (a0_1 : Int) (a0_2 : Int) (a0_3 : Int) (r : Bool) (w : World) (h : addr_Fine.f a0_0 a0_1 a0_2 a0_3 = some r) :
    Calls Tryz.prog 64 #[.agg #[.int .i64 a0_0, .int .i64 a0_1, .int .i64 a0_2, .int .i64 a0_3]] w fun e w' => e = .returned (.bool r) ∧ Below w.heap.size w w' := by
  have hu28 := Tryz.underlying28
  have hu26 := Tryz.underlying26
  have HB := Aside0.mk (Below.refl w.heap.size w)
  have H : ((addr_Good.f a0_0 a0_1).bind fun t129 => (if t129 = true then ((addr_Good.f a0_2 a0_3).bind fun t130 => (if t130 = true then (if a0_0 ≤ a0_2 then (some (decide (a0_1 ≤ a0_3))) else (some false)) else (some false))) else (some false))) = some r := h
  clear h
  replace H := Option.bind_eq_some_iff.mp H
  obtain ⟨t129, A20, H⟩ := H
  replace H : (if t129 = true then ((addr_Good.f a0_2 a0_3).bind fun t130 => (if t130 = true then (if a0_0 ≤ a0_2 then (some (decide (a0_1 ≤ a0_3))) else (some false)) else (some false))) else (some false)) = some r := H
  have A2 := Aside0.mk A20
  clear A20
  by_cases c3 : t129 = true
  · subst c3
    have H1 : ((addr_Good.f a0_2 a0_3).bind fun t130 => (if t130 = true then (if a0_0 ≤ a0_2 then (some (decide (a0_1 ≤ a0_3))) else (some false)) else (some false))) = some r := by rw [if_pos rfl] at H; exact H
    clear H
    have H := H1
    clear H1
    replace H := Option.bind_eq_some_iff.mp H
    obtain ⟨t130, A40, H⟩ := H
    replace H : (if t130 = true then (if a0_0 ≤ a0_2 then (some (decide (a0_1 ≤ a0_3))) else (some false)) else (some false)) = some r := H
    have A4 := Aside0.mk A40
    clear A40
    by_cases c5 : t130 = true
    · subst c5
      have H1 : (if a0_0 ≤ a0_2 then (some (decide (a0_1 ≤ a0_3))) else (some false)) = some r := by rw [if_pos rfl] at H; exact H
      clear H
      have H := H1
      clear H1
      by_cases c6 : a0_0 ≤ a0_2
      · rw [if_pos c6] at H
        have c6b0 : decide (a0_0 ≤ a0_2) = true := decide_eq_true c6
        clear c6
        obtain rfl := Option.some.inj H
        go_enter Tryz.func64, Tryz.ntmps64
        go_wp2_with (first | ((with_reducible refine gate_dst (N := 1) rfl ?_); refine box_event ?hg (N := 1) ?hd (cs := #[.int .i64 a0_0, .int .i64 a0_1, .int .i64 a0_2, .int .i64 a0_3]) (t := 28) ?hr ?_; (case hd => rfl); (case hg => rfl); (case hr => first | (go_simp; done) | (go_simp; rfl)); intro gb128 hg w7 hbox hb; have n0_ := Aside0.mk (below_step zz1 hb); have n1_ := Aside0.mk (hbox); have n2_ := Aside0.mk ((by rw [hg]; exact (below_size zz1) : w.heap.size ≤ gb128)); have n3_ := n2_; clear HB; have HB := n0_; have BK128 := n1_; have GW128 := n2_; have GE128 := n3_; clear n0_ n1_ n2_ n3_; clear hb hbox hg; obtain ⟨_, _, _, _, _, _, _, _⟩ := zC4 BK128.out) | ((with_reducible refine gate_callee (f := 48) rfl ?_); refine goesL_ (some 5) rfl rfl Tryz.func48 (by kernel_rfl) rfl #[.agg #[.int .i64 a0_0, .int .i64 a0_1]] rfl zz25 ?_; (with_reducible refine (addr_Good.calls a0_0 a0_1 true _ A2.out).mono ?_); rintro e w9 ⟨rfl, hb⟩; refine ⟨_, rfl, ?_⟩; have n0_ := Aside0.mk (blk_below (g := gb128) (o := .cells #[.int .i64 a0_0, .int .i64 a0_1, .int .i64 a0_2, .int .i64 a0_3] 28 (0, 0)) (zB BK128.out) hb); have n1_ := Aside0.mk (below_step zz6 hb); clear BK128; clear HB; have BK128 := n0_; have HB := n1_; clear n0_ n1_; (try clear hb); (try clear hb2); (try clear hk); (try clear hi); obtain ⟨_, _, _, _, _, _, _, _⟩ := zC4 BK128.out) | (go_at_call 48; (with_reducible refine (addr_Good.calls a0_2 a0_3 true _ A4.out).mono ?_); rintro e w11 ⟨rfl, hb⟩; have n0_ := Aside0.mk (blk_below (g := gb128) (o := .cells #[.int .i64 a0_0, .int .i64 a0_1, .int .i64 a0_2, .int .i64 a0_3] 28 (0, 0)) (zB BK128.out) hb); have n1_ := Aside0.mk (below_step zz6 hb); clear BK128; clear HB; have BK128 := n0_; have HB := n1_; clear n0_ n1_; (try clear hb); (try clear hb2); (try clear hk); (try clear hi); obtain ⟨_, _, _, _, _, _, _, _⟩ := zC4 BK128.out))
        go_ret
        exact ⟨zz26, zz6⟩
      · rw [if_neg c6] at H
        have c6b0 : decide (a0_0 ≤ a0_2) = false := decide_eq_false c6
        clear c6
        obtain rfl := Option.some.inj H
        go_enter Tryz.func64, Tryz.ntmps64
        go_wp2_with (first | ((with_reducible refine gate_dst (N := 1) rfl ?_); refine box_event ?hg (N := 1) ?hd (cs := #[.int .i64 a0_0, .int .i64 a0_1, .int .i64 a0_2, .int .i64 a0_3]) (t := 28) ?hr ?_; (case hd => rfl); (case hg => rfl); (case hr => first | (go_simp; done) | (go_simp; rfl)); intro gb128 hg w13 hbox hb; have n0_ := Aside0.mk (below_step zz1 hb); have n1_ := Aside0.mk (hbox); have n2_ := Aside0.mk ((by rw [hg]; exact (below_size zz1) : w.heap.size ≤ gb128)); have n3_ := n2_; clear HB; have HB := n0_; have BK128 := n1_; have GW128 := n2_; have GE128 := n3_; clear n0_ n1_ n2_ n3_; clear hb hbox hg; obtain ⟨_, _, _, _, _, _, _, _⟩ := zC4 BK128.out) | ((with_reducible refine gate_callee (f := 48) rfl ?_); refine goesL_ (some 5) rfl rfl Tryz.func48 (by kernel_rfl) rfl #[.agg #[.int .i64 a0_0, .int .i64 a0_1]] rfl zz25 ?_; (with_reducible refine (addr_Good.calls a0_0 a0_1 true _ A2.out).mono ?_); rintro e w15 ⟨rfl, hb⟩; refine ⟨_, rfl, ?_⟩; have n0_ := Aside0.mk (blk_below (g := gb128) (o := .cells #[.int .i64 a0_0, .int .i64 a0_1, .int .i64 a0_2, .int .i64 a0_3] 28 (0, 0)) (zB BK128.out) hb); have n1_ := Aside0.mk (below_step zz6 hb); clear BK128; clear HB; have BK128 := n0_; have HB := n1_; clear n0_ n1_; (try clear hb); (try clear hb2); (try clear hk); (try clear hi); obtain ⟨_, _, _, _, _, _, _, _⟩ := zC4 BK128.out) | (go_at_call 48; (with_reducible refine (addr_Good.calls a0_2 a0_3 true _ A4.out).mono ?_); rintro e w17 ⟨rfl, hb⟩; have n0_ := Aside0.mk (blk_below (g := gb128) (o := .cells #[.int .i64 a0_0, .int .i64 a0_1, .int .i64 a0_2, .int .i64 a0_3] 28 (0, 0)) (zB BK128.out) hb); have n1_ := Aside0.mk (below_step zz6 hb); clear BK128; clear HB; have BK128 := n0_; have HB := n1_; clear n0_ n1_; (try clear hb); (try clear hb2); (try clear hk); (try clear hi); obtain ⟨_, _, _, _, _, _, _, _⟩ := zC4 BK128.out))
        go_ret
        exact ⟨zz26, zz6⟩
    · replace c5 := Bool.eq_false_iff.mpr c5
      subst c5
      have H1 : (some false) = some r := by rw [if_neg (show ¬ (false = true) by decide)] at H; exact H
      clear H
      have H := H1
      clear H1
      obtain rfl := Option.some.inj H
      go_enter Tryz.func64, Tryz.ntmps64
      go_wp2_with (first | ((with_reducible refine gate_dst (N := 1) rfl ?_); refine box_event ?hg (N := 1) ?hd (cs := #[.int .i64 a0_0, .int .i64 a0_1, .int .i64 a0_2, .int .i64 a0_3]) (t := 28) ?hr ?_; (case hd => rfl); (case hg => rfl); (case hr => first | (go_simp; done) | (go_simp; rfl)); intro gb128 hg w19 hbox hb; have n0_ := Aside0.mk (below_step zz1 hb); have n1_ := Aside0.mk (hbox); have n2_ := Aside0.mk ((by rw [hg]; exact (below_size zz1) : w.heap.size ≤ gb128)); have n3_ := n2_; clear HB; have HB := n0_; have BK128 := n1_; have GW128 := n2_; have GE128 := n3_; clear n0_ n1_ n2_ n3_; clear hb hbox hg; obtain ⟨_, _, _, _, _, _, _, _⟩ := zC4 BK128.out) | ((with_reducible refine gate_callee (f := 48) rfl ?_); refine goesL_ (some 5) rfl rfl Tryz.func48 (by kernel_rfl) rfl #[.agg #[.int .i64 a0_0, .int .i64 a0_1]] rfl zz25 ?_; (with_reducible refine (addr_Good.calls a0_0 a0_1 true _ A2.out).mono ?_); rintro e w21 ⟨rfl, hb⟩; refine ⟨_, rfl, ?_⟩; have n0_ := Aside0.mk (blk_below (g := gb128) (o := .cells #[.int .i64 a0_0, .int .i64 a0_1, .int .i64 a0_2, .int .i64 a0_3] 28 (0, 0)) (zB BK128.out) hb); have n1_ := Aside0.mk (below_step zz6 hb); clear BK128; clear HB; have BK128 := n0_; have HB := n1_; clear n0_ n1_; (try clear hb); (try clear hb2); (try clear hk); (try clear hi); obtain ⟨_, _, _, _, _, _, _, _⟩ := zC4 BK128.out) | (go_at_call 48; (with_reducible refine (addr_Good.calls a0_2 a0_3 false _ A4.out).mono ?_); rintro e w23 ⟨rfl, hb⟩; have n0_ := Aside0.mk (blk_below (g := gb128) (o := .cells #[.int .i64 a0_0, .int .i64 a0_1, .int .i64 a0_2, .int .i64 a0_3] 28 (0, 0)) (zB BK128.out) hb); have n1_ := Aside0.mk (below_step zz6 hb); clear BK128; clear HB; have BK128 := n0_; have HB := n1_; clear n0_ n1_; (try clear hb); (try clear hb2); (try clear hk); (try clear hi)))
      go_ret
      exact ⟨zz26, zz6⟩
  · replace c3 := Bool.eq_false_iff.mpr c3
    subst c3
    have H1 : (some false) = some r := by rw [if_neg (show ¬ (false = true) by decide)] at H; exact H
    clear H
    have H := H1
    clear H1
    obtain rfl := Option.some.inj H
    go_enter Tryz.func64, Tryz.ntmps64
    go_wp2_with (first | ((with_reducible refine gate_dst (N := 1) rfl ?_); refine box_event ?hg (N := 1) ?hd (cs := #[.int .i64 a0_0, .int .i64 a0_1, .int .i64 a0_2, .int .i64 a0_3]) (t := 28) ?hr ?_; (case hd => rfl); (case hg => rfl); (case hr => first | (go_simp; done) | (go_simp; rfl)); intro gb128 hg w24 hbox hb; have n0_ := Aside0.mk (below_step zz1 hb); have n1_ := Aside0.mk (hbox); have n2_ := Aside0.mk ((by rw [hg]; exact (below_size zz1) : w.heap.size ≤ gb128)); have n3_ := n2_; clear HB; have HB := n0_; have BK128 := n1_; have GW128 := n2_; have GE128 := n3_; clear n0_ n1_ n2_ n3_; clear hb hbox hg; obtain ⟨_, _, _, _, _, _, _, _⟩ := zC4 BK128.out) | ((with_reducible refine gate_callee (f := 48) rfl ?_); refine goesL_ (some 5) rfl rfl Tryz.func48 (by kernel_rfl) rfl #[.agg #[.int .i64 a0_0, .int .i64 a0_1]] rfl zz25 ?_; (with_reducible refine (addr_Good.calls a0_0 a0_1 false _ A2.out).mono ?_); rintro e w26 ⟨rfl, hb⟩; refine ⟨_, rfl, ?_⟩; have n0_ := Aside0.mk (blk_below (g := gb128) (o := .cells #[.int .i64 a0_0, .int .i64 a0_1, .int .i64 a0_2, .int .i64 a0_3] 28 (0, 0)) (zB BK128.out) hb); have n1_ := Aside0.mk (below_step zz6 hb); clear BK128; clear HB; have BK128 := n0_; have HB := n1_; clear n0_ n1_; (try clear hb); (try clear hb2); (try clear hk); (try clear hi)))
    go_ret
    exact ⟨zz26, zz6⟩
end Go.Proofs.YtnomfbmebafolaaGreatDoor.P

namespace Go.Proofs.YtnomfbmebafolaaGreatDoor.P
open Go.RowKit Go.Proofs.YtnomfbmebafolaaGreatDoorW.PrintWords Go.Proofs.YtnomfbmebafolaaGreatDoorW.PrintLast Go.Proofs.YtnomfbmebafolaaGreatDoorW.PrintMore
attribute [local go_sem] max2_int min2_int max_two min_two max_three min_three max_four min_four   -- for this text's walks alone
set_option linter.unusedVariables false
set_option linter.unusedSimpArgs false
def tree_op.l0 : Nat → ByteArray → Int → Int → Option (Bool)
  | 0, _, _, _ => none
  | k + 1, x0, x6, x7 => if x7 < x6 then (if 0 ≤ x7 then (if x7 < (x0.size : Int) then (if (bt x0 x7) ≥ 65 then (if ((bt x0 x7) ≤ 90) then (tree_op.l0 k x0 x6 (wrap64 (x7 + 1))) else (if x7 = 0 then (some false) else (if (bt x0 x7) < 48 then (some false) else (if (bt x0 x7) > 57 then (some false) else (tree_op.l0 k x0 x6 (wrap64 (x7 + 1))))))) else (if x7 = 0 then (some false) else (if (bt x0 x7) < 48 then (some false) else (if (bt x0 x7) > 57 then (some false) else (tree_op.l0 k x0 x6 (wrap64 (x7 + 1))))))) else (none)) else (none)) else (if x0.toList = ([] : List UInt8) then (some false) else (some (decide ((x0.size : Int) ≤ 8))))
def tree_op.f (k : Nat) (a0 : ByteArray) : Option (Bool) := tree_op.l0 k a0 (a0.size : Int) 0
theorem tree_op.mono_l : ∀ k, (∀ y0 y1 y2, LeO (tree_op.l0 k y0 y1 y2) (tree_op.l0 (k + 1) y0 y1 y2))
  | 0 => fun _ _ _ r h => by simp [tree_op.l0] at h
  | k + 1 => by
    have ih0 := tree_op.mono_l k
    · intro y0 y1 y2
      unfold tree_op.l0
      repeat' first
      | (with_reducible exact ih0 _ _ _)
      | (with_reducible exact LeO.refl _)
      | (with_reducible exact LeO.none _)
      | (with_reducible refine LeO.ite ?_ ?_)
      | (with_reducible refine LeO.bind ?_ (fun _ => ?_))
      | exact ih0 _ _ _
      | exact LeO.none _
      | refine LeO.ite ?_ ?_
      | refine LeO.bind ?_ (fun _ => ?_)
theorem tree_op.mono : ∀ a0 k, LeO (tree_op.f k a0) (tree_op.f (k + 1) a0) := by
  intro a0 k
  have ih0 := tree_op.mono_l k
  unfold tree_op.f
  repeat' first
      | (with_reducible exact ih0 _ _ _)
      | (with_reducible exact LeO.refl _)
      | (with_reducible exact LeO.none _)
      | (with_reducible refine LeO.ite ?_ ?_)
      | (with_reducible refine LeO.bind ?_ (fun _ => ?_))
      | exact ih0 _ _ _
      | exact LeO.none _
      | refine LeO.ite ?_ ?_
      | refine LeO.bind ?_ (fun _ => ?_)
set_option maxHeartbeats 8000000 in
set_option maxRecDepth 100000 in
theorem tree_op.calls (k : Nat) (a0 : ByteArray) (r : Bool) (w : World) (h : tree_op.f k a0 = some r) :
    Calls Tryz.prog 66 #[.string a0] w fun e w' => e = .returned (.bool r) ∧ Drawn0 w w' := by
  have H : (tree_op.l0 k a0 (a0.size : Int) 0) = some r := h
  clear h
  have H' := Aside0.mk H
  clear H
  go_enter Tryz.func66, Tryz.ntmps66
  go_wp2
  go_loopg [7] k (fun kq v7 w' => ∃ (x7_1 : Int), v7 = .int .i64 x7_1 ∧ Aside0 (tree_op.l0 kq a0 (a0.size : Int) x7_1 = some r) ∧ Aside0 (kq ≤ k) ∧ Drawn0 w w')
  case atStart => exact ⟨(0), zz27, H', ⟨Nat.le_refl _⟩, by repeat (first | exact Drawn0.refl _ | apply Drawn0.step)⟩
  case round =>
    clear H'
    obtain ⟨x7_1, rfl, HA, HK1, ⟨m1, rfl⟩⟩ := hrel
    cases gk with
    | zero => exact absurd HA.out (by simp [tree_op.l0])
    | succ k1 =>
      have H := HA.out
      clear HA
      simp only [tree_op.l0] at H
      by_cases c2 : x7_1 < (a0.size : Int)
      · rw [if_pos c2] at H
        have c2b0 : decide (x7_1 < (a0.size : Int)) = true := decide_eq_true c2
        clear c2
        by_cases c3 : 0 ≤ x7_1
        · rw [if_pos c3] at H
          have c3b0 : decide (0 ≤ x7_1) = true := decide_eq_true c3
          clear c3
          by_cases c4 : x7_1 < (a0.size : Int)
          · rw [if_pos c4] at H
            have c4b0 : decide (x7_1 < (a0.size : Int)) = true := decide_eq_true c4
            clear c4
            by_cases c6 : (bt a0 x7_1) ≥ 65
            · rw [if_pos c6] at H
              have c6b0 : decide (65 ≤ (bt a0 x7_1)) = true := decide_eq_true c6
              clear c6
              by_cases c8 : ((bt a0 x7_1) ≤ 90)
              · rw [if_pos c8] at H
                have c8b0 : decide ((bt a0 x7_1) ≤ 90) = true := decide_eq_true c8
                clear c8
                have H' := Aside0.mk H
                clear H
                have p5 : 0 ≤ (x7_1 : Int) := of_decide_eq_true (by first | (with_reducible assumption) | assumption)
                have q5 : x7_1 < (a0.size : Int) := of_decide_eq_true (by first | (with_reducible assumption) | assumption)
                have hx5 := bt_at a0 x7_1
                replace p5 := eq_true p5
                replace q5 := eq_true q5
                have p7 : 0 ≤ (x7_1 : Int) := of_decide_eq_true (by first | (with_reducible assumption) | assumption)
                have q7 : x7_1 < (a0.size : Int) := of_decide_eq_true (by first | (with_reducible assumption) | assumption)
                have hx7 := bt_at a0 x7_1
                replace p7 := eq_true p7
                replace q7 := eq_true q7
                go_wp2
                go_roundg k1
                case measure => have := HK1.out; omega
                case rel => exact ⟨(wrap64 (x7_1 + 1)), zz27, H', ⟨by have := HK1.out; omega⟩, by repeat (first | exact Drawn0.refl _ | apply Drawn0.step)⟩
              · rw [if_neg c8] at H
                have c8b0 : decide ((bt a0 x7_1) ≤ 90) = false := decide_eq_false c8
                clear c8
                by_cases c9 : x7_1 = 0
                · rw [if_pos c9] at H
                  have c9b0 : (x7_1 == 0) = true := beq_iff_eq.mpr c9
                  have c9b1 : (x7_1 != 0) = false := bne_eq_false_iff_eq.mpr c9
                  clear c9
                  obtain rfl := Option.some.inj H
                  have p5 : 0 ≤ (x7_1 : Int) := of_decide_eq_true (by first | (with_reducible assumption) | assumption)
                  have q5 : x7_1 < (a0.size : Int) := of_decide_eq_true (by first | (with_reducible assumption) | assumption)
                  have hx5 := bt_at a0 x7_1
                  replace p5 := eq_true p5
                  replace q5 := eq_true q5
                  have p7 : 0 ≤ (x7_1 : Int) := of_decide_eq_true (by first | (with_reducible assumption) | assumption)
                  have q7 : x7_1 < (a0.size : Int) := of_decide_eq_true (by first | (with_reducible assumption) | assumption)
                  have hx7 := bt_at a0 x7_1
                  replace p7 := eq_true p7
                  replace q7 := eq_true q7
                  go_wp2
                  go_ret
                  exact ⟨zz27, by repeat (first | exact Drawn0.refl _ | apply Drawn0.step)⟩
                · rw [if_neg c9] at H
                  have c9b0 : (x7_1 == 0) = false := beq_eq_false_iff_ne.mpr c9
                  have c9b1 : (x7_1 != 0) = true := bne_iff_ne.mpr c9
                  by_cases c11 : (bt a0 x7_1) < 48
                  · rw [if_pos c11] at H
                    have c11b0 : decide ((bt a0 x7_1) < 48) = true := decide_eq_true c11
                    clear c11
                    obtain rfl := Option.some.inj H
                    have p5 : 0 ≤ (x7_1 : Int) := of_decide_eq_true (by first | (with_reducible assumption) | assumption)
                    have q5 : x7_1 < (a0.size : Int) := of_decide_eq_true (by first | (with_reducible assumption) | assumption)
                    have hx5 := bt_at a0 x7_1
                    replace p5 := eq_true p5
                    replace q5 := eq_true q5
                    have p7 : 0 ≤ (x7_1 : Int) := of_decide_eq_true (by first | (with_reducible assumption) | assumption)
                    have q7 : x7_1 < (a0.size : Int) := of_decide_eq_true (by first | (with_reducible assumption) | assumption)
                    have hx7 := bt_at a0 x7_1
                    replace p7 := eq_true p7
                    replace q7 := eq_true q7
                    have p10 : 0 ≤ (x7_1 : Int) := of_decide_eq_true (by first | (with_reducible assumption) | assumption)
                    have q10 : x7_1 < (a0.size : Int) := of_decide_eq_true (by first | (with_reducible assumption) | assumption)
                    have hx10 := bt_at a0 x7_1
                    replace p10 := eq_true p10
                    replace q10 := eq_true q10
                    go_wp2
                    go_ret
                    exact ⟨zz27, by repeat (first | exact Drawn0.refl _ | apply Drawn0.step)⟩
                  · rw [if_neg c11] at H
                    have c11b0 : decide ((bt a0 x7_1) < 48) = false := decide_eq_false c11
                    clear c11
                    by_cases c13 : (bt a0 x7_1) > 57
                    · rw [if_pos c13] at H
                      have c13b0 : decide (57 < (bt a0 x7_1)) = true := decide_eq_true c13
                      clear c13
                      obtain rfl := Option.some.inj H
                      have p5 : 0 ≤ (x7_1 : Int) := of_decide_eq_true (by first | (with_reducible assumption) | assumption)
                      have q5 : x7_1 < (a0.size : Int) := of_decide_eq_true (by first | (with_reducible assumption) | assumption)
                      have hx5 := bt_at a0 x7_1
                      replace p5 := eq_true p5
                      replace q5 := eq_true q5
                      have p7 : 0 ≤ (x7_1 : Int) := of_decide_eq_true (by first | (with_reducible assumption) | assumption)
                      have q7 : x7_1 < (a0.size : Int) := of_decide_eq_true (by first | (with_reducible assumption) | assumption)
                      have hx7 := bt_at a0 x7_1
                      replace p7 := eq_true p7
                      replace q7 := eq_true q7
                      have p10 : 0 ≤ (x7_1 : Int) := of_decide_eq_true (by first | (with_reducible assumption) | assumption)
                      have q10 : x7_1 < (a0.size : Int) := of_decide_eq_true (by first | (with_reducible assumption) | assumption)
                      have hx10 := bt_at a0 x7_1
                      replace p10 := eq_true p10
                      replace q10 := eq_true q10
                      have p12 : 0 ≤ (x7_1 : Int) := of_decide_eq_true (by first | (with_reducible assumption) | assumption)
                      have q12 : x7_1 < (a0.size : Int) := of_decide_eq_true (by first | (with_reducible assumption) | assumption)
                      have hx12 := bt_at a0 x7_1
                      replace p12 := eq_true p12
                      replace q12 := eq_true q12
                      go_wp2
                      go_ret
                      exact ⟨zz27, by repeat (first | exact Drawn0.refl _ | apply Drawn0.step)⟩
                    · rw [if_neg c13] at H
                      have c13b0 : decide (57 < (bt a0 x7_1)) = false := decide_eq_false c13
                      clear c13
                      have H' := Aside0.mk H
                      clear H
                      have p5 : 0 ≤ (x7_1 : Int) := of_decide_eq_true (by first | (with_reducible assumption) | assumption)
                      have q5 : x7_1 < (a0.size : Int) := of_decide_eq_true (by first | (with_reducible assumption) | assumption)
                      have hx5 := bt_at a0 x7_1
                      replace p5 := eq_true p5
                      replace q5 := eq_true q5
                      have p7 : 0 ≤ (x7_1 : Int) := of_decide_eq_true (by first | (with_reducible assumption) | assumption)
                      have q7 : x7_1 < (a0.size : Int) := of_decide_eq_true (by first | (with_reducible assumption) | assumption)
                      have hx7 := bt_at a0 x7_1
                      replace p7 := eq_true p7
                      replace q7 := eq_true q7
                      have p10 : 0 ≤ (x7_1 : Int) := of_decide_eq_true (by first | (with_reducible assumption) | assumption)
                      have q10 : x7_1 < (a0.size : Int) := of_decide_eq_true (by first | (with_reducible assumption) | assumption)
                      have hx10 := bt_at a0 x7_1
                      replace p10 := eq_true p10
                      replace q10 := eq_true q10
                      have p12 : 0 ≤ (x7_1 : Int) := of_decide_eq_true (by first | (with_reducible assumption) | assumption)
                      have q12 : x7_1 < (a0.size : Int) := of_decide_eq_true (by first | (with_reducible assumption) | assumption)
                      have hx12 := bt_at a0 x7_1
                      replace p12 := eq_true p12
                      replace q12 := eq_true q12
                      go_wp2
                      go_roundg k1
                      case measure => have := HK1.out; omega
                      case rel => exact ⟨(wrap64 (x7_1 + 1)), zz27, H', ⟨by have := HK1.out; omega⟩, by repeat (first | exact Drawn0.refl _ | apply Drawn0.step)⟩
            · rw [if_neg c6] at H
              have c6b0 : decide (65 ≤ (bt a0 x7_1)) = false := decide_eq_false c6
              clear c6
              by_cases c14 : x7_1 = 0
              · rw [if_pos c14] at H
                have c14b0 : (x7_1 == 0) = true := beq_iff_eq.mpr c14
                have c14b1 : (x7_1 != 0) = false := bne_eq_false_iff_eq.mpr c14
                clear c14
                obtain rfl := Option.some.inj H
                have p5 : 0 ≤ (x7_1 : Int) := of_decide_eq_true (by first | (with_reducible assumption) | assumption)
                have q5 : x7_1 < (a0.size : Int) := of_decide_eq_true (by first | (with_reducible assumption) | assumption)
                have hx5 := bt_at a0 x7_1
                replace p5 := eq_true p5
                replace q5 := eq_true q5
                go_wp2
                go_ret
                exact ⟨zz27, by repeat (first | exact Drawn0.refl _ | apply Drawn0.step)⟩
              · rw [if_neg c14] at H
                have c14b0 : (x7_1 == 0) = false := beq_eq_false_iff_ne.mpr c14
                have c14b1 : (x7_1 != 0) = true := bne_iff_ne.mpr c14
                by_cases c16 : (bt a0 x7_1) < 48
                · rw [if_pos c16] at H
                  have c16b0 : decide ((bt a0 x7_1) < 48) = true := decide_eq_true c16
                  clear c16
                  obtain rfl := Option.some.inj H
                  have p5 : 0 ≤ (x7_1 : Int) := of_decide_eq_true (by first | (with_reducible assumption) | assumption)
                  have q5 : x7_1 < (a0.size : Int) := of_decide_eq_true (by first | (with_reducible assumption) | assumption)
                  have hx5 := bt_at a0 x7_1
                  replace p5 := eq_true p5
                  replace q5 := eq_true q5
                  have p15 : 0 ≤ (x7_1 : Int) := of_decide_eq_true (by first | (with_reducible assumption) | assumption)
                  have q15 : x7_1 < (a0.size : Int) := of_decide_eq_true (by first | (with_reducible assumption) | assumption)
                  have hx15 := bt_at a0 x7_1
                  replace p15 := eq_true p15
                  replace q15 := eq_true q15
                  go_wp2
                  go_ret
                  exact ⟨zz27, by repeat (first | exact Drawn0.refl _ | apply Drawn0.step)⟩
                · rw [if_neg c16] at H
                  have c16b0 : decide ((bt a0 x7_1) < 48) = false := decide_eq_false c16
                  clear c16
                  by_cases c18 : (bt a0 x7_1) > 57
                  · rw [if_pos c18] at H
                    have c18b0 : decide (57 < (bt a0 x7_1)) = true := decide_eq_true c18
                    clear c18
                    obtain rfl := Option.some.inj H
                    have p5 : 0 ≤ (x7_1 : Int) := of_decide_eq_true (by first | (with_reducible assumption) | assumption)
                    have q5 : x7_1 < (a0.size : Int) := of_decide_eq_true (by first | (with_reducible assumption) | assumption)
                    have hx5 := bt_at a0 x7_1
                    replace p5 := eq_true p5
                    replace q5 := eq_true q5
                    have p15 : 0 ≤ (x7_1 : Int) := of_decide_eq_true (by first | (with_reducible assumption) | assumption)
                    have q15 : x7_1 < (a0.size : Int) := of_decide_eq_true (by first | (with_reducible assumption) | assumption)
                    have hx15 := bt_at a0 x7_1
                    replace p15 := eq_true p15
                    replace q15 := eq_true q15
                    have p17 : 0 ≤ (x7_1 : Int) := of_decide_eq_true (by first | (with_reducible assumption) | assumption)
                    have q17 : x7_1 < (a0.size : Int) := of_decide_eq_true (by first | (with_reducible assumption) | assumption)
                    have hx17 := bt_at a0 x7_1
                    replace p17 := eq_true p17
                    replace q17 := eq_true q17
                    go_wp2
                    go_ret
                    exact ⟨zz27, by repeat (first | exact Drawn0.refl _ | apply Drawn0.step)⟩
                  · rw [if_neg c18] at H
                    have c18b0 : decide (57 < (bt a0 x7_1)) = false := decide_eq_false c18
                    clear c18
                    have H' := Aside0.mk H
                    clear H
                    have p5 : 0 ≤ (x7_1 : Int) := of_decide_eq_true (by first | (with_reducible assumption) | assumption)
                    have q5 : x7_1 < (a0.size : Int) := of_decide_eq_true (by first | (with_reducible assumption) | assumption)
                    have hx5 := bt_at a0 x7_1
                    replace p5 := eq_true p5
                    replace q5 := eq_true q5
                    have p15 : 0 ≤ (x7_1 : Int) := of_decide_eq_true (by first | (with_reducible assumption) | assumption)
                    have q15 : x7_1 < (a0.size : Int) := of_decide_eq_true (by first | (with_reducible assumption) | assumption)
                    have hx15 := bt_at a0 x7_1
                    replace p15 := eq_true p15
                    replace q15 := eq_true q15
                    have p17 : 0 ≤ (x7_1 : Int) := of_decide_eq_true (by first | (with_reducible assumption) | assumption)
                    have q17 : x7_1 < (a0.size : Int) := of_decide_eq_true (by first | (with_reducible assumption) | assumption)
                    have hx17 := bt_at a0 x7_1
                    replace p17 := eq_true p17
                    replace q17 := eq_true q17
                    go_wp2
                    go_roundg k1
                    case measure => have := HK1.out; omega
                    case rel => exact ⟨(wrap64 (x7_1 + 1)), zz27, H', ⟨by have := HK1.out; omega⟩, by repeat (first | exact Drawn0.refl _ | apply Drawn0.step)⟩
          · rw [if_neg c4] at H
            exact absurd H (by simp)
        · rw [if_neg c3] at H
          exact absurd H (by simp)
      · rw [if_neg c2] at H
        have c2b0 : decide (x7_1 < (a0.size : Int)) = false := decide_eq_false c2
        clear c2
        by_cases c19 : a0.toList = ([] : List UInt8)
        · rw [if_pos c19] at H
          have c19b0 : (a0.toList == ([] : List UInt8)) = true := beq_iff_eq.mpr c19
          have c19b1 : (a0.toList != ([] : List UInt8)) = false := bne_eq_false_iff_eq.mpr c19
          clear c19
          obtain rfl := Option.some.inj H
          go_wp2
          go_ret
          exact ⟨zz27, by repeat (first | exact Drawn0.refl _ | apply Drawn0.step)⟩
        · rw [if_neg c19] at H
          have c19b0 : (a0.toList == ([] : List UInt8)) = false := beq_eq_false_iff_ne.mpr c19
          have c19b1 : (a0.toList != ([] : List UInt8)) = true := bne_iff_ne.mpr c19
          obtain rfl := Option.some.inj H
          go_wp2
          go_ret
          exact ⟨zz27, by repeat (first | exact Drawn0.refl _ | apply Drawn0.step)⟩
end Go.Proofs.YtnomfbmebafolaaGreatDoor.P

namespace Go.Proofs.YtnomfbmebafolaaGreatDoor.P
open Go.RowKit Go.Proofs.YtnomfbmebafolaaGreatDoorW.PrintWords Go.Proofs.YtnomfbmebafolaaGreatDoorW.PrintLast Go.Proofs.YtnomfbmebafolaaGreatDoorW.PrintMore
attribute [local go_sem] max2_int min2_int max_two min_two max_three min_three max_four min_four   -- for this text's walks alone
set_option linter.unusedVariables false
set_option linter.unusedSimpArgs false
attribute [local go_sem high] eqA26
def tree_one.f (k : Nat) (a0_0 : Int) (a0_1 : Int) (a0_2 : Int) (a0_3 : ByteArray) (a0_4 : Int) (a0_5 : Int) (a0_6 : Int) (a0_7 : Int) (a0_8 : ByteArray) (l0_9 : List (S31)) : Option (Bool) := if a0_0 = 1 then (if a0_1 = 2 then (if a0_2 ≥ 0 then ((tree_fields.f a0_0 a0_1 a0_2 a0_3 a0_4 a0_5 a0_6 a0_7 a0_8 l0_9 true false false 0 0).bind fun t134 => (if t134 = true then ((value_Good.f a0_1 a0_2 a0_3).bind fun t135 => (some t135)) else (some false))) else (if a0_1 = 3 then ((tree_fields.f a0_0 a0_1 a0_2 a0_3 a0_4 a0_5 a0_6 a0_7 a0_8 l0_9 true false false 0 0).bind fun t136 => (if t136 = true then ((value_Good.f a0_1 a0_2 a0_3).bind fun t137 => (some t137)) else (some false))) else ((tree_fields.f a0_0 a0_1 a0_2 a0_3 a0_4 a0_5 a0_6 a0_7 a0_8 l0_9 true false false 0 0).bind fun t138 => (if t138 = true then (if a0_1 = 1 then ((value_Good.f a0_1 a0_2 a0_3).bind fun t139 => (some t139)) else (some false)) else (some false))))) else (if a0_1 = 3 then ((tree_fields.f a0_0 a0_1 a0_2 a0_3 a0_4 a0_5 a0_6 a0_7 a0_8 l0_9 true false false 0 0).bind fun t140 => (if t140 = true then ((value_Good.f a0_1 a0_2 a0_3).bind fun t141 => (some t141)) else (some false))) else ((tree_fields.f a0_0 a0_1 a0_2 a0_3 a0_4 a0_5 a0_6 a0_7 a0_8 l0_9 true false false 0 0).bind fun t142 => (if t142 = true then (if a0_1 = 1 then ((value_Good.f a0_1 a0_2 a0_3).bind fun t143 => (some t143)) else (some false)) else (some false))))) else (if a0_0 = 2 then ((tree_fields.f a0_0 a0_1 a0_2 a0_3 a0_4 a0_5 a0_6 a0_7 a0_8 l0_9 false true false 0 0).bind fun t144 => (if t144 = true then ((addr_Good.f a0_4 a0_5).bind fun t145 => (if t145 = true then (some (a0_6 == 0 && (a0_7 == 0))) else (some false))) else (some false))) else (if a0_0 = 3 then ((tree_fields.f a0_0 a0_1 a0_2 a0_3 a0_4 a0_5 a0_6 a0_7 a0_8 l0_9 false true false 0 0).bind fun t146 => (if t146 = true then ((addr_Fine.f a0_4 a0_5 a0_6 a0_7).bind fun t147 => (some t147)) else (some false))) else (if a0_0 = 4 then ((tree_fields.f a0_0 a0_1 a0_2 a0_3 a0_4 a0_5 a0_6 a0_7 a0_8 l0_9 false false false 1 1).bind fun t148 => (some t148)) else (if a0_0 = 5 then ((tree_fields.f a0_0 a0_1 a0_2 a0_3 a0_4 a0_5 a0_6 a0_7 a0_8 l0_9 false false true 2 2).bind fun t149 => (if t149 = true then ((slices_Contains_string_string.f k (([(⟨#[61]⟩ : ByteArray), (⟨#[60, 62]⟩ : ByteArray), (⟨#[60]⟩ : ByteArray), (⟨#[60, 61]⟩ : ByteArray), (⟨#[62]⟩ : ByteArray), (⟨#[62, 61]⟩ : ByteArray), (⟨#[43]⟩ : ByteArray), (⟨#[45]⟩ : ByteArray), (⟨#[38]⟩ : ByteArray), (⟨#[42]⟩ : ByteArray), (⟨#[47]⟩ : ByteArray), (⟨#[37]⟩ : ByteArray), (⟨#[94]⟩ : ByteArray)] : List ByteArray)) a0_8).bind fun t153 => (some t153)) else (some false))) else (if a0_0 = 6 then ((tree_fields.f a0_0 a0_1 a0_2 a0_3 a0_4 a0_5 a0_6 a0_7 a0_8 l0_9 false false true 0 10).bind fun t154 => (if t154 = true then ((tree_op.f k a0_8).bind fun t155 => (some t155)) else (some false))) else (some false))))))
theorem tree_one.mono : ∀ a0 a1 a2 a3 a4 a5 a6 a7 a8 a9 k, LeO (tree_one.f k a0 a1 a2 a3 a4 a5 a6 a7 a8 a9) (tree_one.f (k + 1) a0 a1 a2 a3 a4 a5 a6 a7 a8 a9) := by
  intro a0 a1 a2 a3 a4 a5 a6 a7 a8 a9 k
  unfold tree_one.f
  repeat' first
      | (with_reducible exact slices_Contains_string_string.mono _ _ _)
      | (with_reducible exact tree_op.mono _ _)
      | (with_reducible exact LeO.refl _)
      | (with_reducible exact LeO.none _)
      | (with_reducible refine LeO.ite ?_ ?_)
      | (with_reducible refine LeO.bind ?_ (fun _ => ?_))
      | exact slices_Contains_string_string.mono _ _ _
      | exact tree_op.mono _ _
      | exact LeO.none _
      | refine LeO.ite ?_ ?_
      | refine LeO.bind ?_ (fun _ => ?_)
set_option maxHeartbeats 8000000 in
set_option maxRecDepth 100000 in
theorem tree_one.calls (k : Nat) (a0_0 : Int) (a0_1 : Int) (a0_2 : Int) (a0_3 : ByteArray) (a0_4 : Int) (a0_5 : Int) (a0_6 : Int) (a0_7 : Int) (a0_8 : ByteArray) (A0_9 : Option Addr) (c0_9 : Nat) (l0_9 : List (S31)) (r : Bool) (w : World) (hr0_9 : Kd.C k31 w A0_9 l0_9.length l0_9) (hc0_9 : l0_9.length ≤ c0_9) (h : tree_one.f k a0_0 a0_1 a0_2 a0_3 a0_4 a0_5 a0_6 a0_7 a0_8 l0_9 = some r) :
    Calls Tryz.prog 43 #[.agg #[.int .i64 a0_0, .int .i64 a0_1, .int .i64 a0_2, .string a0_3, .int .i64 a0_4, .int .i64 a0_5, .int .i64 a0_6, .int .i64 a0_7, .string a0_8, .slice A0_9 l0_9.length c0_9]] w fun e w' => e = .returned (.bool r) ∧ Below w.heap.size w w' := by
  have hu31 := Tryz.underlying31
  have hu24 := Tryz.underlying24
  have hu26 := Tryz.underlying26
  have hu28 := Tryz.underlying28
  have HR0_9 := Aside0.mk hr0_9
  have HC0_9 := Aside0.mk hc0_9
  clear hr0_9 hc0_9
  have HB := Aside0.mk (Below.refl w.heap.size w)
  have H : (if a0_0 = 1 then (if a0_1 = 2 then (if a0_2 ≥ 0 then ((tree_fields.f a0_0 a0_1 a0_2 a0_3 a0_4 a0_5 a0_6 a0_7 a0_8 l0_9 true false false 0 0).bind fun t134 => (if t134 = true then ((value_Good.f a0_1 a0_2 a0_3).bind fun t135 => (some t135)) else (some false))) else (if a0_1 = 3 then ((tree_fields.f a0_0 a0_1 a0_2 a0_3 a0_4 a0_5 a0_6 a0_7 a0_8 l0_9 true false false 0 0).bind fun t136 => (if t136 = true then ((value_Good.f a0_1 a0_2 a0_3).bind fun t137 => (some t137)) else (some false))) else ((tree_fields.f a0_0 a0_1 a0_2 a0_3 a0_4 a0_5 a0_6 a0_7 a0_8 l0_9 true false false 0 0).bind fun t138 => (if t138 = true then (if a0_1 = 1 then ((value_Good.f a0_1 a0_2 a0_3).bind fun t139 => (some t139)) else (some false)) else (some false))))) else (if a0_1 = 3 then ((tree_fields.f a0_0 a0_1 a0_2 a0_3 a0_4 a0_5 a0_6 a0_7 a0_8 l0_9 true false false 0 0).bind fun t140 => (if t140 = true then ((value_Good.f a0_1 a0_2 a0_3).bind fun t141 => (some t141)) else (some false))) else ((tree_fields.f a0_0 a0_1 a0_2 a0_3 a0_4 a0_5 a0_6 a0_7 a0_8 l0_9 true false false 0 0).bind fun t142 => (if t142 = true then (if a0_1 = 1 then ((value_Good.f a0_1 a0_2 a0_3).bind fun t143 => (some t143)) else (some false)) else (some false))))) else (if a0_0 = 2 then ((tree_fields.f a0_0 a0_1 a0_2 a0_3 a0_4 a0_5 a0_6 a0_7 a0_8 l0_9 false true false 0 0).bind fun t144 => (if t144 = true then ((addr_Good.f a0_4 a0_5).bind fun t145 => (if t145 = true then (some (a0_6 == 0 && (a0_7 == 0))) else (some false))) else (some false))) else (if a0_0 = 3 then ((tree_fields.f a0_0 a0_1 a0_2 a0_3 a0_4 a0_5 a0_6 a0_7 a0_8 l0_9 false true false 0 0).bind fun t146 => (if t146 = true then ((addr_Fine.f a0_4 a0_5 a0_6 a0_7).bind fun t147 => (some t147)) else (some false))) else (if a0_0 = 4 then ((tree_fields.f a0_0 a0_1 a0_2 a0_3 a0_4 a0_5 a0_6 a0_7 a0_8 l0_9 false false false 1 1).bind fun t148 => (some t148)) else (if a0_0 = 5 then ((tree_fields.f a0_0 a0_1 a0_2 a0_3 a0_4 a0_5 a0_6 a0_7 a0_8 l0_9 false false true 2 2).bind fun t149 => (if t149 = true then ((slices_Contains_string_string.f k (([(⟨#[61]⟩ : ByteArray), (⟨#[60, 62]⟩ : ByteArray), (⟨#[60]⟩ : ByteArray), (⟨#[60, 61]⟩ : ByteArray), (⟨#[62]⟩ : ByteArray), (⟨#[62, 61]⟩ : ByteArray), (⟨#[43]⟩ : ByteArray), (⟨#[45]⟩ : ByteArray), (⟨#[38]⟩ : ByteArray), (⟨#[42]⟩ : ByteArray), (⟨#[47]⟩ : ByteArray), (⟨#[37]⟩ : ByteArray), (⟨#[94]⟩ : ByteArray)] : List ByteArray)) a0_8).bind fun t153 => (some t153)) else (some false))) else (if a0_0 = 6 then ((tree_fields.f a0_0 a0_1 a0_2 a0_3 a0_4 a0_5 a0_6 a0_7 a0_8 l0_9 false false true 0 10).bind fun t154 => (if t154 = true then ((tree_op.f k a0_8).bind fun t155 => (some t155)) else (some false))) else (some false))))))) = some r := h
  clear h
  by_cases c2 : a0_0 = 1
  · rw [if_pos c2] at H
    have c2b0 : (a0_0 == 1) = true := beq_iff_eq.mpr c2
    have c2b1 : (a0_0 != 1) = false := bne_eq_false_iff_eq.mpr c2
    clear c2
    by_cases c3 : a0_1 = 2
    · rw [if_pos c3] at H
      have c3b0 : (a0_1 == 2) = true := beq_iff_eq.mpr c3
      have c3b1 : (a0_1 != 2) = false := bne_eq_false_iff_eq.mpr c3
      clear c3
      by_cases c4 : a0_2 ≥ 0
      · rw [if_pos c4] at H
        have c4b0 : decide (0 ≤ a0_2) = true := decide_eq_true c4
        clear c4
        replace H := Option.bind_eq_some_iff.mp H
        obtain ⟨t134, A50, H⟩ := H
        replace H : (if t134 = true then ((value_Good.f a0_1 a0_2 a0_3).bind fun t135 => (some t135)) else (some false)) = some r := H
        have A5 := Aside0.mk A50
        clear A50
        by_cases c6 : t134 = true
        · subst c6
          have H1 : ((value_Good.f a0_1 a0_2 a0_3).bind fun t135 => (some t135)) = some r := by rw [if_pos rfl] at H; exact H
          clear H
          have H := H1
          clear H1
          replace H := Option.bind_eq_some_iff.mp H
          obtain ⟨t135, A70, H⟩ := H
          replace H : (some t135) = some r := H
          have A7 := Aside0.mk A70
          clear A70
          obtain rfl := Option.some.inj H
          go_enter Tryz.func43, Tryz.ntmps43
          go_wp2_with (first | ((with_reducible refine gate_dst (N := 1) rfl ?_); (try (refine gate_guard (by rfl) ?_; dsimp only)); refine box_event ?hg (N := 1) ?hd (cs := #[.int .i64 a0_0, .int .i64 a0_1, .int .i64 a0_2, .string a0_3, .int .i64 a0_4, .int .i64 a0_5, .int .i64 a0_6, .int .i64 a0_7, .string a0_8, .slice A0_9 l0_9.length c0_9]) (t := 31) ?hr ?_; (case hd => rfl); (case hg => rfl); (case hr => first | (go_simp; done) | (go_simp; rfl)); intro gb133 hg w8 hbox hb; have n0_ := Aside0.mk (below_step zz1 hb); have n1_ := Aside0.mk (hbox); have n2_ := Aside0.mk ((by rw [hg]; exact (below_size zz1) : w.heap.size ≤ gb133)); have n3_ := n2_; clear HB; have HB := n0_; have BK133 := n1_; have GW133 := n2_; have GE133 := n3_; clear n0_ n1_ n2_ n3_; clear hb hbox hg; obtain ⟨_, _, _, _, _, _, _, _, _, _, _, _, _, _, _, _, _, _, _, _⟩ := zC10 BK133.out) | ((with_reducible refine gate_callee (f := 63) rfl ?_); refine goesL_ (some 31) rfl rfl Tryz.func63 (by kernel_rfl) rfl #[.agg #[.int .i64 a0_0, .int .i64 a0_1, .int .i64 a0_2, .string a0_3, .int .i64 a0_4, .int .i64 a0_5, .int .i64 a0_6, .int .i64 a0_7, .string a0_8, .slice A0_9 l0_9.length c0_9], .bool true, .bool false, .bool false, .int .i64 0, .int .i64 0] rfl zz25 ?_; (with_reducible refine (tree_fields.calls a0_0 a0_1 a0_2 a0_3 a0_4 a0_5 a0_6 a0_7 a0_8 _ _ l0_9 true false false 0 0 true _ ?side1 ?side2 A5.out).mono ?_); (case side1 => repeat (first | exact (Kd.C_below HR0_9.out HB.out) | (with_reducible refine Kd.C_alloc ?_ _) | (with_reducible refine Kd.C_drewN ?_ _) | (with_reducible refine Kd.C_drew ?_))); (case side2 => exact HC0_9.out); rintro e w10 ⟨rfl, hb⟩; refine ⟨_, rfl, ?_⟩; have n0_ := Aside0.mk (blk_below (g := gb133) (o := .cells #[.int .i64 a0_0, .int .i64 a0_1, .int .i64 a0_2, .string a0_3, .int .i64 a0_4, .int .i64 a0_5, .int .i64 a0_6, .int .i64 a0_7, .string a0_8, .slice A0_9 l0_9.length c0_9] 31 (0, 0)) (zB BK133.out) hb); have n1_ := Aside0.mk (below_step zz2 hb); clear BK133; clear HB; have BK133 := n0_; have HB := n1_; clear n0_ n1_; (try clear hb); (try clear hb2); (try clear hk); (try clear hi); obtain ⟨_, _, _, _, _, _, _, _, _, _, _, _, _, _, _, _, _, _, _, _⟩ := zC10 BK133.out) | (go_at_call 19; (with_reducible refine (value_Good.calls a0_1 a0_2 a0_3 t135 _ A7.out).mono ?_); rintro e w12 ⟨rfl, hb⟩; have n0_ := Aside0.mk (blk_below (g := gb133) (o := .cells #[.int .i64 a0_0, .int .i64 a0_1, .int .i64 a0_2, .string a0_3, .int .i64 a0_4, .int .i64 a0_5, .int .i64 a0_6, .int .i64 a0_7, .string a0_8, .slice A0_9 l0_9.length c0_9] 31 (0, 0)) (zB BK133.out) hb); have n1_ := Aside0.mk (below_step zz2 hb); clear BK133; clear HB; have BK133 := n0_; have HB := n1_; clear n0_ n1_; (try clear hb); (try clear hb2); (try clear hk); (try clear hi)))
          go_ret
          exact ⟨zz26, zz2⟩
        · replace c6 := Bool.eq_false_iff.mpr c6
          subst c6
          have H1 : (some false) = some r := by rw [if_neg (show ¬ (false = true) by decide)] at H; exact H
          clear H
          have H := H1
          clear H1
          obtain rfl := Option.some.inj H
          go_enter Tryz.func43, Tryz.ntmps43
          go_wp2_with (first | ((with_reducible refine gate_dst (N := 1) rfl ?_); (try (refine gate_guard (by rfl) ?_; dsimp only)); refine box_event ?hg (N := 1) ?hd (cs := #[.int .i64 a0_0, .int .i64 a0_1, .int .i64 a0_2, .string a0_3, .int .i64 a0_4, .int .i64 a0_5, .int .i64 a0_6, .int .i64 a0_7, .string a0_8, .slice A0_9 l0_9.length c0_9]) (t := 31) ?hr ?_; (case hd => rfl); (case hg => rfl); (case hr => first | (go_simp; done) | (go_simp; rfl)); intro gb133 hg w13 hbox hb; have n0_ := Aside0.mk (below_step zz1 hb); have n1_ := Aside0.mk (hbox); have n2_ := Aside0.mk ((by rw [hg]; exact (below_size zz1) : w.heap.size ≤ gb133)); have n3_ := n2_; clear HB; have HB := n0_; have BK133 := n1_; have GW133 := n2_; have GE133 := n3_; clear n0_ n1_ n2_ n3_; clear hb hbox hg; obtain ⟨_, _, _, _, _, _, _, _, _, _, _, _, _, _, _, _, _, _, _, _⟩ := zC10 BK133.out) | ((with_reducible refine gate_callee (f := 63) rfl ?_); refine goesL_ (some 31) rfl rfl Tryz.func63 (by kernel_rfl) rfl #[.agg #[.int .i64 a0_0, .int .i64 a0_1, .int .i64 a0_2, .string a0_3, .int .i64 a0_4, .int .i64 a0_5, .int .i64 a0_6, .int .i64 a0_7, .string a0_8, .slice A0_9 l0_9.length c0_9], .bool true, .bool false, .bool false, .int .i64 0, .int .i64 0] rfl zz25 ?_; (with_reducible refine (tree_fields.calls a0_0 a0_1 a0_2 a0_3 a0_4 a0_5 a0_6 a0_7 a0_8 _ _ l0_9 true false false 0 0 false _ ?side1 ?side2 A5.out).mono ?_); (case side1 => repeat (first | exact (Kd.C_below HR0_9.out HB.out) | (with_reducible refine Kd.C_alloc ?_ _) | (with_reducible refine Kd.C_drewN ?_ _) | (with_reducible refine Kd.C_drew ?_))); (case side2 => exact HC0_9.out); rintro e w15 ⟨rfl, hb⟩; refine ⟨_, rfl, ?_⟩; have n0_ := Aside0.mk (blk_below (g := gb133) (o := .cells #[.int .i64 a0_0, .int .i64 a0_1, .int .i64 a0_2, .string a0_3, .int .i64 a0_4, .int .i64 a0_5, .int .i64 a0_6, .int .i64 a0_7, .string a0_8, .slice A0_9 l0_9.length c0_9] 31 (0, 0)) (zB BK133.out) hb); have n1_ := Aside0.mk (below_step zz2 hb); clear BK133; clear HB; have BK133 := n0_; have HB := n1_; clear n0_ n1_; (try clear hb); (try clear hb2); (try clear hk); (try clear hi)))
          go_ret
          exact ⟨zz26, zz2⟩
      · rw [if_neg c4] at H
        have c4b0 : decide (0 ≤ a0_2) = false := decide_eq_false c4
        clear c4
        by_cases c16 : a0_1 = 3
        · rw [if_pos c16] at H
          have c16b0 : (a0_1 == 3) = true := beq_iff_eq.mpr c16
          have c16b1 : (a0_1 != 3) = false := bne_eq_false_iff_eq.mpr c16
          clear c16
          replace H := Option.bind_eq_some_iff.mp H
          obtain ⟨t136, A170, H⟩ := H
          replace H : (if t136 = true then ((value_Good.f a0_1 a0_2 a0_3).bind fun t137 => (some t137)) else (some false)) = some r := H
          have A17 := Aside0.mk A170
          clear A170
          by_cases c18 : t136 = true
          · subst c18
            have H1 : ((value_Good.f a0_1 a0_2 a0_3).bind fun t137 => (some t137)) = some r := by rw [if_pos rfl] at H; exact H
            clear H
            have H := H1
            clear H1
            replace H := Option.bind_eq_some_iff.mp H
            obtain ⟨t137, A190, H⟩ := H
            replace H : (some t137) = some r := H
            have A19 := Aside0.mk A190
            clear A190
            obtain rfl := Option.some.inj H
            go_enter Tryz.func43, Tryz.ntmps43
            go_wp2_with (first | ((with_reducible refine gate_dst (N := 1) rfl ?_); (try (refine gate_guard (by rfl) ?_; dsimp only)); refine box_event ?hg (N := 1) ?hd (cs := #[.int .i64 a0_0, .int .i64 a0_1, .int .i64 a0_2, .string a0_3, .int .i64 a0_4, .int .i64 a0_5, .int .i64 a0_6, .int .i64 a0_7, .string a0_8, .slice A0_9 l0_9.length c0_9]) (t := 31) ?hr ?_; (case hd => rfl); (case hg => rfl); (case hr => first | (go_simp; done) | (go_simp; rfl)); intro gb133 hg w20 hbox hb; have n0_ := Aside0.mk (below_step zz1 hb); have n1_ := Aside0.mk (hbox); have n2_ := Aside0.mk ((by rw [hg]; exact (below_size zz1) : w.heap.size ≤ gb133)); have n3_ := n2_; clear HB; have HB := n0_; have BK133 := n1_; have GW133 := n2_; have GE133 := n3_; clear n0_ n1_ n2_ n3_; clear hb hbox hg; obtain ⟨_, _, _, _, _, _, _, _, _, _, _, _, _, _, _, _, _, _, _, _⟩ := zC10 BK133.out) | ((with_reducible refine gate_callee (f := 63) rfl ?_); refine goesL_ (some 31) rfl rfl Tryz.func63 (by kernel_rfl) rfl #[.agg #[.int .i64 a0_0, .int .i64 a0_1, .int .i64 a0_2, .string a0_3, .int .i64 a0_4, .int .i64 a0_5, .int .i64 a0_6, .int .i64 a0_7, .string a0_8, .slice A0_9 l0_9.length c0_9], .bool true, .bool false, .bool false, .int .i64 0, .int .i64 0] rfl zz25 ?_; (with_reducible refine (tree_fields.calls a0_0 a0_1 a0_2 a0_3 a0_4 a0_5 a0_6 a0_7 a0_8 _ _ l0_9 true false false 0 0 true _ ?side1 ?side2 A17.out).mono ?_); (case side1 => repeat (first | exact (Kd.C_below HR0_9.out HB.out) | (with_reducible refine Kd.C_alloc ?_ _) | (with_reducible refine Kd.C_drewN ?_ _) | (with_reducible refine Kd.C_drew ?_))); (case side2 => exact HC0_9.out); rintro e w22 ⟨rfl, hb⟩; refine ⟨_, rfl, ?_⟩; have n0_ := Aside0.mk (blk_below (g := gb133) (o := .cells #[.int .i64 a0_0, .int .i64 a0_1, .int .i64 a0_2, .string a0_3, .int .i64 a0_4, .int .i64 a0_5, .int .i64 a0_6, .int .i64 a0_7, .string a0_8, .slice A0_9 l0_9.length c0_9] 31 (0, 0)) (zB BK133.out) hb); have n1_ := Aside0.mk (below_step zz2 hb); clear BK133; clear HB; have BK133 := n0_; have HB := n1_; clear n0_ n1_; (try clear hb); (try clear hb2); (try clear hk); (try clear hi); obtain ⟨_, _, _, _, _, _, _, _, _, _, _, _, _, _, _, _, _, _, _, _⟩ := zC10 BK133.out) | (go_at_call 19; (with_reducible refine (value_Good.calls a0_1 a0_2 a0_3 t137 _ A19.out).mono ?_); rintro e w24 ⟨rfl, hb⟩; have n0_ := Aside0.mk (blk_below (g := gb133) (o := .cells #[.int .i64 a0_0, .int .i64 a0_1, .int .i64 a0_2, .string a0_3, .int .i64 a0_4, .int .i64 a0_5, .int .i64 a0_6, .int .i64 a0_7, .string a0_8, .slice A0_9 l0_9.length c0_9] 31 (0, 0)) (zB BK133.out) hb); have n1_ := Aside0.mk (below_step zz2 hb); clear BK133; clear HB; have BK133 := n0_; have HB := n1_; clear n0_ n1_; (try clear hb); (try clear hb2); (try clear hk); (try clear hi)))
            go_ret
            exact ⟨zz26, zz2⟩
          · replace c18 := Bool.eq_false_iff.mpr c18
            subst c18
            have H1 : (some false) = some r := by rw [if_neg (show ¬ (false = true) by decide)] at H; exact H
            clear H
            have H := H1
            clear H1
            obtain rfl := Option.some.inj H
            go_enter Tryz.func43, Tryz.ntmps43
            go_wp2_with (first | ((with_reducible refine gate_dst (N := 1) rfl ?_); (try (refine gate_guard (by rfl) ?_; dsimp only)); refine box_event ?hg (N := 1) ?hd (cs := #[.int .i64 a0_0, .int .i64 a0_1, .int .i64 a0_2, .string a0_3, .int .i64 a0_4, .int .i64 a0_5, .int .i64 a0_6, .int .i64 a0_7, .string a0_8, .slice A0_9 l0_9.length c0_9]) (t := 31) ?hr ?_; (case hd => rfl); (case hg => rfl); (case hr => first | (go_simp; done) | (go_simp; rfl)); intro gb133 hg w25 hbox hb; have n0_ := Aside0.mk (below_step zz1 hb); have n1_ := Aside0.mk (hbox); have n2_ := Aside0.mk ((by rw [hg]; exact (below_size zz1) : w.heap.size ≤ gb133)); have n3_ := n2_; clear HB; have HB := n0_; have BK133 := n1_; have GW133 := n2_; have GE133 := n3_; clear n0_ n1_ n2_ n3_; clear hb hbox hg; obtain ⟨_, _, _, _, _, _, _, _, _, _, _, _, _, _, _, _, _, _, _, _⟩ := zC10 BK133.out) | ((with_reducible refine gate_callee (f := 63) rfl ?_); refine goesL_ (some 31) rfl rfl Tryz.func63 (by kernel_rfl) rfl #[.agg #[.int .i64 a0_0, .int .i64 a0_1, .int .i64 a0_2, .string a0_3, .int .i64 a0_4, .int .i64 a0_5, .int .i64 a0_6, .int .i64 a0_7, .string a0_8, .slice A0_9 l0_9.length c0_9], .bool true, .bool false, .bool false, .int .i64 0, .int .i64 0] rfl zz25 ?_; (with_reducible refine (tree_fields.calls a0_0 a0_1 a0_2 a0_3 a0_4 a0_5 a0_6 a0_7 a0_8 _ _ l0_9 true false false 0 0 false _ ?side1 ?side2 A17.out).mono ?_); (case side1 => repeat (first | exact (Kd.C_below HR0_9.out HB.out) | (with_reducible refine Kd.C_alloc ?_ _) | (with_reducible refine Kd.C_drewN ?_ _) | (with_reducible refine Kd.C_drew ?_))); (case side2 => exact HC0_9.out); rintro e w27 ⟨rfl, hb⟩; refine ⟨_, rfl, ?_⟩; have n0_ := Aside0.mk (blk_below (g := gb133) (o := .cells #[.int .i64 a0_0, .int .i64 a0_1, .int .i64 a0_2, .string a0_3, .int .i64 a0_4, .int .i64 a0_5, .int .i64 a0_6, .int .i64 a0_7, .string a0_8, .slice A0_9 l0_9.length c0_9] 31 (0, 0)) (zB BK133.out) hb); have n1_ := Aside0.mk (below_step zz2 hb); clear BK133; clear HB; have BK133 := n0_; have HB := n1_; clear n0_ n1_; (try clear hb); (try clear hb2); (try clear hk); (try clear hi)))
            go_ret
            exact ⟨zz26, zz2⟩
        · rw [if_neg c16] at H
          have c16b0 : (a0_1 == 3) = false := beq_eq_false_iff_ne.mpr c16
          have c16b1 : (a0_1 != 3) = true := bne_iff_ne.mpr c16
          replace H := Option.bind_eq_some_iff.mp H
          obtain ⟨t138, A280, H⟩ := H
          replace H : (if t138 = true then (if a0_1 = 1 then ((value_Good.f a0_1 a0_2 a0_3).bind fun t139 => (some t139)) else (some false)) else (some false)) = some r := H
          have A28 := Aside0.mk A280
          clear A280
          by_cases c29 : t138 = true
          · subst c29
            have H1 : (if a0_1 = 1 then ((value_Good.f a0_1 a0_2 a0_3).bind fun t139 => (some t139)) else (some false)) = some r := by rw [if_pos rfl] at H; exact H
            clear H
            have H := H1
            clear H1
            by_cases c30 : a0_1 = 1
            · rw [if_pos c30] at H
              have c30b0 : (a0_1 == 1) = true := beq_iff_eq.mpr c30
              have c30b1 : (a0_1 != 1) = false := bne_eq_false_iff_eq.mpr c30
              clear c30
              replace H := Option.bind_eq_some_iff.mp H
              obtain ⟨t139, A310, H⟩ := H
              replace H : (some t139) = some r := H
              have A31 := Aside0.mk A310
              clear A310
              obtain rfl := Option.some.inj H
              go_enter Tryz.func43, Tryz.ntmps43
              go_wp2_with (first | ((with_reducible refine gate_dst (N := 1) rfl ?_); (try (refine gate_guard (by rfl) ?_; dsimp only)); refine box_event ?hg (N := 1) ?hd (cs := #[.int .i64 a0_0, .int .i64 a0_1, .int .i64 a0_2, .string a0_3, .int .i64 a0_4, .int .i64 a0_5, .int .i64 a0_6, .int .i64 a0_7, .string a0_8, .slice A0_9 l0_9.length c0_9]) (t := 31) ?hr ?_; (case hd => rfl); (case hg => rfl); (case hr => first | (go_simp; done) | (go_simp; rfl)); intro gb133 hg w32 hbox hb; have n0_ := Aside0.mk (below_step zz1 hb); have n1_ := Aside0.mk (hbox); have n2_ := Aside0.mk ((by rw [hg]; exact (below_size zz1) : w.heap.size ≤ gb133)); have n3_ := n2_; clear HB; have HB := n0_; have BK133 := n1_; have GW133 := n2_; have GE133 := n3_; clear n0_ n1_ n2_ n3_; clear hb hbox hg; obtain ⟨_, _, _, _, _, _, _, _, _, _, _, _, _, _, _, _, _, _, _, _⟩ := zC10 BK133.out) | ((with_reducible refine gate_callee (f := 63) rfl ?_); refine goesL_ (some 31) rfl rfl Tryz.func63 (by kernel_rfl) rfl #[.agg #[.int .i64 a0_0, .int .i64 a0_1, .int .i64 a0_2, .string a0_3, .int .i64 a0_4, .int .i64 a0_5, .int .i64 a0_6, .int .i64 a0_7, .string a0_8, .slice A0_9 l0_9.length c0_9], .bool true, .bool false, .bool false, .int .i64 0, .int .i64 0] rfl zz25 ?_; (with_reducible refine (tree_fields.calls a0_0 a0_1 a0_2 a0_3 a0_4 a0_5 a0_6 a0_7 a0_8 _ _ l0_9 true false false 0 0 true _ ?side1 ?side2 A28.out).mono ?_); (case side1 => repeat (first | exact (Kd.C_below HR0_9.out HB.out) | (with_reducible refine Kd.C_alloc ?_ _) | (with_reducible refine Kd.C_drewN ?_ _) | (with_reducible refine Kd.C_drew ?_))); (case side2 => exact HC0_9.out); rintro e w34 ⟨rfl, hb⟩; refine ⟨_, rfl, ?_⟩; have n0_ := Aside0.mk (blk_below (g := gb133) (o := .cells #[.int .i64 a0_0, .int .i64 a0_1, .int .i64 a0_2, .string a0_3, .int .i64 a0_4, .int .i64 a0_5, .int .i64 a0_6, .int .i64 a0_7, .string a0_8, .slice A0_9 l0_9.length c0_9] 31 (0, 0)) (zB BK133.out) hb); have n1_ := Aside0.mk (below_step zz2 hb); clear BK133; clear HB; have BK133 := n0_; have HB := n1_; clear n0_ n1_; (try clear hb); (try clear hb2); (try clear hk); (try clear hi); obtain ⟨_, _, _, _, _, _, _, _, _, _, _, _, _, _, _, _, _, _, _, _⟩ := zC10 BK133.out) | (go_at_call 19; (with_reducible refine (value_Good.calls a0_1 a0_2 a0_3 t139 _ A31.out).mono ?_); rintro e w36 ⟨rfl, hb⟩; have n0_ := Aside0.mk (blk_below (g := gb133) (o := .cells #[.int .i64 a0_0, .int .i64 a0_1, .int .i64 a0_2, .string a0_3, .int .i64 a0_4, .int .i64 a0_5, .int .i64 a0_6, .int .i64 a0_7, .string a0_8, .slice A0_9 l0_9.length c0_9] 31 (0, 0)) (zB BK133.out) hb); have n1_ := Aside0.mk (below_step zz2 hb); clear BK133; clear HB; have BK133 := n0_; have HB := n1_; clear n0_ n1_; (try clear hb); (try clear hb2); (try clear hk); (try clear hi)))
              go_ret
              exact ⟨zz26, zz2⟩
            · rw [if_neg c30] at H
              have c30b0 : (a0_1 == 1) = false := beq_eq_false_iff_ne.mpr c30
              have c30b1 : (a0_1 != 1) = true := bne_iff_ne.mpr c30
              obtain rfl := Option.some.inj H
              go_enter Tryz.func43, Tryz.ntmps43
              go_wp2_with (first | ((with_reducible refine gate_dst (N := 1) rfl ?_); (try (refine gate_guard (by rfl) ?_; dsimp only)); refine box_event ?hg (N := 1) ?hd (cs := #[.int .i64 a0_0, .int .i64 a0_1, .int .i64 a0_2, .string a0_3, .int .i64 a0_4, .int .i64 a0_5, .int .i64 a0_6, .int .i64 a0_7, .string a0_8, .slice A0_9 l0_9.length c0_9]) (t := 31) ?hr ?_; (case hd => rfl); (case hg => rfl); (case hr => first | (go_simp; done) | (go_simp; rfl)); intro gb133 hg w37 hbox hb; have n0_ := Aside0.mk (below_step zz1 hb); have n1_ := Aside0.mk (hbox); have n2_ := Aside0.mk ((by rw [hg]; exact (below_size zz1) : w.heap.size ≤ gb133)); have n3_ := n2_; clear HB; have HB := n0_; have BK133 := n1_; have GW133 := n2_; have GE133 := n3_; clear n0_ n1_ n2_ n3_; clear hb hbox hg; obtain ⟨_, _, _, _, _, _, _, _, _, _, _, _, _, _, _, _, _, _, _, _⟩ := zC10 BK133.out) | ((with_reducible refine gate_callee (f := 63) rfl ?_); refine goesL_ (some 31) rfl rfl Tryz.func63 (by kernel_rfl) rfl #[.agg #[.int .i64 a0_0, .int .i64 a0_1, .int .i64 a0_2, .string a0_3, .int .i64 a0_4, .int .i64 a0_5, .int .i64 a0_6, .int .i64 a0_7, .string a0_8, .slice A0_9 l0_9.length c0_9], .bool true, .bool false, .bool false, .int .i64 0, .int .i64 0] rfl zz25 ?_; (with_reducible refine (tree_fields.calls a0_0 a0_1 a0_2 a0_3 a0_4 a0_5 a0_6 a0_7 a0_8 _ _ l0_9 true false false 0 0 true _ ?side1 ?side2 A28.out).mono ?_); (case side1 => repeat (first | exact (Kd.C_below HR0_9.out HB.out) | (with_reducible refine Kd.C_alloc ?_ _) | (with_reducible refine Kd.C_drewN ?_ _) | (with_reducible refine Kd.C_drew ?_))); (case side2 => exact HC0_9.out); rintro e w39 ⟨rfl, hb⟩; refine ⟨_, rfl, ?_⟩; have n0_ := Aside0.mk (blk_below (g := gb133) (o := .cells #[.int .i64 a0_0, .int .i64 a0_1, .int .i64 a0_2, .string a0_3, .int .i64 a0_4, .int .i64 a0_5, .int .i64 a0_6, .int .i64 a0_7, .string a0_8, .slice A0_9 l0_9.length c0_9] 31 (0, 0)) (zB BK133.out) hb); have n1_ := Aside0.mk (below_step zz2 hb); clear BK133; clear HB; have BK133 := n0_; have HB := n1_; clear n0_ n1_; (try clear hb); (try clear hb2); (try clear hk); (try clear hi)))
              go_ret
              exact ⟨zz26, zz2⟩
          · replace c29 := Bool.eq_false_iff.mpr c29
            subst c29
            have H1 : (some false) = some r := by rw [if_neg (show ¬ (false = true) by decide)] at H; exact H
            clear H
            have H := H1
            clear H1
            obtain rfl := Option.some.inj H
            go_enter Tryz.func43, Tryz.ntmps43
            go_wp2_with (first | ((with_reducible refine gate_dst (N := 1) rfl ?_); (try (refine gate_guard (by rfl) ?_; dsimp only)); refine box_event ?hg (N := 1) ?hd (cs := #[.int .i64 a0_0, .int .i64 a0_1, .int .i64 a0_2, .string a0_3, .int .i64 a0_4, .int .i64 a0_5, .int .i64 a0_6, .int .i64 a0_7, .string a0_8, .slice A0_9 l0_9.length c0_9]) (t := 31) ?hr ?_; (case hd => rfl); (case hg => rfl); (case hr => first | (go_simp; done) | (go_simp; rfl)); intro gb133 hg w40 hbox hb; have n0_ := Aside0.mk (below_step zz1 hb); have n1_ := Aside0.mk (hbox); have n2_ := Aside0.mk ((by rw [hg]; exact (below_size zz1) : w.heap.size ≤ gb133)); have n3_ := n2_; clear HB; have HB := n0_; have BK133 := n1_; have GW133 := n2_; have GE133 := n3_; clear n0_ n1_ n2_ n3_; clear hb hbox hg; obtain ⟨_, _, _, _, _, _, _, _, _, _, _, _, _, _, _, _, _, _, _, _⟩ := zC10 BK133.out) | ((with_reducible refine gate_callee (f := 63) rfl ?_); refine goesL_ (some 31) rfl rfl Tryz.func63 (by kernel_rfl) rfl #[.agg #[.int .i64 a0_0, .int .i64 a0_1, .int .i64 a0_2, .string a0_3, .int .i64 a0_4, .int .i64 a0_5, .int .i64 a0_6, .int .i64 a0_7, .string a0_8, .slice A0_9 l0_9.length c0_9], .bool true, .bool false, .bool false, .int .i64 0, .int .i64 0] rfl zz25 ?_; (with_reducible refine (tree_fields.calls a0_0 a0_1 a0_2 a0_3 a0_4 a0_5 a0_6 a0_7 a0_8 _ _ l0_9 true false false 0 0 false _ ?side1 ?side2 A28.out).mono ?_); (case side1 => repeat (first | exact (Kd.C_below HR0_9.out HB.out) | (with_reducible refine Kd.C_alloc ?_ _) | (with_reducible refine Kd.C_drewN ?_ _) | (with_reducible refine Kd.C_drew ?_))); (case side2 => exact HC0_9.out); rintro e w42 ⟨rfl, hb⟩; refine ⟨_, rfl, ?_⟩; have n0_ := Aside0.mk (blk_below (g := gb133) (o := .cells #[.int .i64 a0_0, .int .i64 a0_1, .int .i64 a0_2, .string a0_3, .int .i64 a0_4, .int .i64 a0_5, .int .i64 a0_6, .int .i64 a0_7, .string a0_8, .slice A0_9 l0_9.length c0_9] 31 (0, 0)) (zB BK133.out) hb); have n1_ := Aside0.mk (below_step zz2 hb); clear BK133; clear HB; have BK133 := n0_; have HB := n1_; clear n0_ n1_; (try clear hb); (try clear hb2); (try clear hk); (try clear hi)))
            go_ret
            exact ⟨zz26, zz2⟩
    · rw [if_neg c3] at H
      have c3b0 : (a0_1 == 2) = false := beq_eq_false_iff_ne.mpr c3
      have c3b1 : (a0_1 != 2) = true := bne_iff_ne.mpr c3
      by_cases c43 : a0_1 = 3
      · rw [if_pos c43] at H
        have c43b0 : (a0_1 == 3) = true := beq_iff_eq.mpr c43
        have c43b1 : (a0_1 != 3) = false := bne_eq_false_iff_eq.mpr c43
        clear c43
        replace H := Option.bind_eq_some_iff.mp H
        obtain ⟨t140, A440, H⟩ := H
        replace H : (if t140 = true then ((value_Good.f a0_1 a0_2 a0_3).bind fun t141 => (some t141)) else (some false)) = some r := H
        have A44 := Aside0.mk A440
        clear A440
        by_cases c45 : t140 = true
        · subst c45
          have H1 : ((value_Good.f a0_1 a0_2 a0_3).bind fun t141 => (some t141)) = some r := by rw [if_pos rfl] at H; exact H
          clear H
          have H := H1
          clear H1
          replace H := Option.bind_eq_some_iff.mp H
          obtain ⟨t141, A460, H⟩ := H
          replace H : (some t141) = some r := H
          have A46 := Aside0.mk A460
          clear A460
          obtain rfl := Option.some.inj H
          go_enter Tryz.func43, Tryz.ntmps43
          go_wp2_with (first | ((with_reducible refine gate_dst (N := 1) rfl ?_); (try (refine gate_guard (by rfl) ?_; dsimp only)); refine box_event ?hg (N := 1) ?hd (cs := #[.int .i64 a0_0, .int .i64 a0_1, .int .i64 a0_2, .string a0_3, .int .i64 a0_4, .int .i64 a0_5, .int .i64 a0_6, .int .i64 a0_7, .string a0_8, .slice A0_9 l0_9.length c0_9]) (t := 31) ?hr ?_; (case hd => rfl); (case hg => rfl); (case hr => first | (go_simp; done) | (go_simp; rfl)); intro gb133 hg w47 hbox hb; have n0_ := Aside0.mk (below_step zz1 hb); have n1_ := Aside0.mk (hbox); have n2_ := Aside0.mk ((by rw [hg]; exact (below_size zz1) : w.heap.size ≤ gb133)); have n3_ := n2_; clear HB; have HB := n0_; have BK133 := n1_; have GW133 := n2_; have GE133 := n3_; clear n0_ n1_ n2_ n3_; clear hb hbox hg; obtain ⟨_, _, _, _, _, _, _, _, _, _, _, _, _, _, _, _, _, _, _, _⟩ := zC10 BK133.out) | ((with_reducible refine gate_callee (f := 63) rfl ?_); refine goesL_ (some 31) rfl rfl Tryz.func63 (by kernel_rfl) rfl #[.agg #[.int .i64 a0_0, .int .i64 a0_1, .int .i64 a0_2, .string a0_3, .int .i64 a0_4, .int .i64 a0_5, .int .i64 a0_6, .int .i64 a0_7, .string a0_8, .slice A0_9 l0_9.length c0_9], .bool true, .bool false, .bool false, .int .i64 0, .int .i64 0] rfl zz25 ?_; (with_reducible refine (tree_fields.calls a0_0 a0_1 a0_2 a0_3 a0_4 a0_5 a0_6 a0_7 a0_8 _ _ l0_9 true false false 0 0 true _ ?side1 ?side2 A44.out).mono ?_); (case side1 => repeat (first | exact (Kd.C_below HR0_9.out HB.out) | (with_reducible refine Kd.C_alloc ?_ _) | (with_reducible refine Kd.C_drewN ?_ _) | (with_reducible refine Kd.C_drew ?_))); (case side2 => exact HC0_9.out); rintro e w49 ⟨rfl, hb⟩; refine ⟨_, rfl, ?_⟩; have n0_ := Aside0.mk (blk_below (g := gb133) (o := .cells #[.int .i64 a0_0, .int .i64 a0_1, .int .i64 a0_2, .string a0_3, .int .i64 a0_4, .int .i64 a0_5, .int .i64 a0_6, .int .i64 a0_7, .string a0_8, .slice A0_9 l0_9.length c0_9] 31 (0, 0)) (zB BK133.out) hb); have n1_ := Aside0.mk (below_step zz2 hb); clear BK133; clear HB; have BK133 := n0_; have HB := n1_; clear n0_ n1_; (try clear hb); (try clear hb2); (try clear hk); (try clear hi); obtain ⟨_, _, _, _, _, _, _, _, _, _, _, _, _, _, _, _, _, _, _, _⟩ := zC10 BK133.out) | (go_at_call 19; (with_reducible refine (value_Good.calls a0_1 a0_2 a0_3 t141 _ A46.out).mono ?_); rintro e w51 ⟨rfl, hb⟩; have n0_ := Aside0.mk (blk_below (g := gb133) (o := .cells #[.int .i64 a0_0, .int .i64 a0_1, .int .i64 a0_2, .string a0_3, .int .i64 a0_4, .int .i64 a0_5, .int .i64 a0_6, .int .i64 a0_7, .string a0_8, .slice A0_9 l0_9.length c0_9] 31 (0, 0)) (zB BK133.out) hb); have n1_ := Aside0.mk (below_step zz2 hb); clear BK133; clear HB; have BK133 := n0_; have HB := n1_; clear n0_ n1_; (try clear hb); (try clear hb2); (try clear hk); (try clear hi)))
          go_ret
          exact ⟨zz26, zz2⟩
        · replace c45 := Bool.eq_false_iff.mpr c45
          subst c45
          have H1 : (some false) = some r := by rw [if_neg (show ¬ (false = true) by decide)] at H; exact H
          clear H
          have H := H1
          clear H1
          obtain rfl := Option.some.inj H
          go_enter Tryz.func43, Tryz.ntmps43
          go_wp2_with (first | ((with_reducible refine gate_dst (N := 1) rfl ?_); (try (refine gate_guard (by rfl) ?_; dsimp only)); refine box_event ?hg (N := 1) ?hd (cs := #[.int .i64 a0_0, .int .i64 a0_1, .int .i64 a0_2, .string a0_3, .int .i64 a0_4, .int .i64 a0_5, .int .i64 a0_6, .int .i64 a0_7, .string a0_8, .slice A0_9 l0_9.length c0_9]) (t := 31) ?hr ?_; (case hd => rfl); (case hg => rfl); (case hr => first | (go_simp; done) | (go_simp; rfl)); intro gb133 hg w52 hbox hb; have n0_ := Aside0.mk (below_step zz1 hb); have n1_ := Aside0.mk (hbox); have n2_ := Aside0.mk ((by rw [hg]; exact (below_size zz1) : w.heap.size ≤ gb133)); have n3_ := n2_; clear HB; have HB := n0_; have BK133 := n1_; have GW133 := n2_; have GE133 := n3_; clear n0_ n1_ n2_ n3_; clear hb hbox hg; obtain ⟨_, _, _, _, _, _, _, _, _, _, _, _, _, _, _, _, _, _, _, _⟩ := zC10 BK133.out) | ((with_reducible refine gate_callee (f := 63) rfl ?_); refine goesL_ (some 31) rfl rfl Tryz.func63 (by kernel_rfl) rfl #[.agg #[.int .i64 a0_0, .int .i64 a0_1, .int .i64 a0_2, .string a0_3, .int .i64 a0_4, .int .i64 a0_5, .int .i64 a0_6, .int .i64 a0_7, .string a0_8, .slice A0_9 l0_9.length c0_9], .bool true, .bool false, .bool false, .int .i64 0, .int .i64 0] rfl zz25 ?_; (with_reducible refine (tree_fields.calls a0_0 a0_1 a0_2 a0_3 a0_4 a0_5 a0_6 a0_7 a0_8 _ _ l0_9 true false false 0 0 false _ ?side1 ?side2 A44.out).mono ?_); (case side1 => repeat (first | exact (Kd.C_below HR0_9.out HB.out) | (with_reducible refine Kd.C_alloc ?_ _) | (with_reducible refine Kd.C_drewN ?_ _) | (with_reducible refine Kd.C_drew ?_))); (case side2 => exact HC0_9.out); rintro e w54 ⟨rfl, hb⟩; refine ⟨_, rfl, ?_⟩; have n0_ := Aside0.mk (blk_below (g := gb133) (o := .cells #[.int .i64 a0_0, .int .i64 a0_1, .int .i64 a0_2, .string a0_3, .int .i64 a0_4, .int .i64 a0_5, .int .i64 a0_6, .int .i64 a0_7, .string a0_8, .slice A0_9 l0_9.length c0_9] 31 (0, 0)) (zB BK133.out) hb); have n1_ := Aside0.mk (below_step zz2 hb); clear BK133; clear HB; have BK133 := n0_; have HB := n1_; clear n0_ n1_; (try clear hb); (try clear hb2); (try clear hk); (try clear hi)))
          go_ret
          exact ⟨zz26, zz2⟩
      · rw [if_neg c43] at H
        have c43b0 : (a0_1 == 3) = false := beq_eq_false_iff_ne.mpr c43
        have c43b1 : (a0_1 != 3) = true := bne_iff_ne.mpr c43
        replace H := Option.bind_eq_some_iff.mp H
        obtain ⟨t142, A550, H⟩ := H
        replace H : (if t142 = true then (if a0_1 = 1 then ((value_Good.f a0_1 a0_2 a0_3).bind fun t143 => (some t143)) else (some false)) else (some false)) = some r := H
        have A55 := Aside0.mk A550
        clear A550
        by_cases c56 : t142 = true
        · subst c56
          have H1 : (if a0_1 = 1 then ((value_Good.f a0_1 a0_2 a0_3).bind fun t143 => (some t143)) else (some false)) = some r := by rw [if_pos rfl] at H; exact H
          clear H
          have H := H1
          clear H1
          by_cases c57 : a0_1 = 1
          · rw [if_pos c57] at H
            have c57b0 : (a0_1 == 1) = true := beq_iff_eq.mpr c57
            have c57b1 : (a0_1 != 1) = false := bne_eq_false_iff_eq.mpr c57
            clear c57
            replace H := Option.bind_eq_some_iff.mp H
            obtain ⟨t143, A580, H⟩ := H
            replace H : (some t143) = some r := H
            have A58 := Aside0.mk A580
            clear A580
            obtain rfl := Option.some.inj H
            go_enter Tryz.func43, Tryz.ntmps43
            go_wp2_with (first | ((with_reducible refine gate_dst (N := 1) rfl ?_); (try (refine gate_guard (by rfl) ?_; dsimp only)); refine box_event ?hg (N := 1) ?hd (cs := #[.int .i64 a0_0, .int .i64 a0_1, .int .i64 a0_2, .string a0_3, .int .i64 a0_4, .int .i64 a0_5, .int .i64 a0_6, .int .i64 a0_7, .string a0_8, .slice A0_9 l0_9.length c0_9]) (t := 31) ?hr ?_; (case hd => rfl); (case hg => rfl); (case hr => first | (go_simp; done) | (go_simp; rfl)); intro gb133 hg w59 hbox hb; have n0_ := Aside0.mk (below_step zz1 hb); have n1_ := Aside0.mk (hbox); have n2_ := Aside0.mk ((by rw [hg]; exact (below_size zz1) : w.heap.size ≤ gb133)); have n3_ := n2_; clear HB; have HB := n0_; have BK133 := n1_; have GW133 := n2_; have GE133 := n3_; clear n0_ n1_ n2_ n3_; clear hb hbox hg; obtain ⟨_, _, _, _, _, _, _, _, _, _, _, _, _, _, _, _, _, _, _, _⟩ := zC10 BK133.out) | ((with_reducible refine gate_callee (f := 63) rfl ?_); refine goesL_ (some 31) rfl rfl Tryz.func63 (by kernel_rfl) rfl #[.agg #[.int .i64 a0_0, .int .i64 a0_1, .int .i64 a0_2, .string a0_3, .int .i64 a0_4, .int .i64 a0_5, .int .i64 a0_6, .int .i64 a0_7, .string a0_8, .slice A0_9 l0_9.length c0_9], .bool true, .bool false, .bool false, .int .i64 0, .int .i64 0] rfl zz25 ?_; (with_reducible refine (tree_fields.calls a0_0 a0_1 a0_2 a0_3 a0_4 a0_5 a0_6 a0_7 a0_8 _ _ l0_9 true false false 0 0 true _ ?side1 ?side2 A55.out).mono ?_); (case side1 => repeat (first | exact (Kd.C_below HR0_9.out HB.out) | (with_reducible refine Kd.C_alloc ?_ _) | (with_reducible refine Kd.C_drewN ?_ _) | (with_reducible refine Kd.C_drew ?_))); (case side2 => exact HC0_9.out); rintro e w61 ⟨rfl, hb⟩; refine ⟨_, rfl, ?_⟩; have n0_ := Aside0.mk (blk_below (g := gb133) (o := .cells #[.int .i64 a0_0, .int .i64 a0_1, .int .i64 a0_2, .string a0_3, .int .i64 a0_4, .int .i64 a0_5, .int .i64 a0_6, .int .i64 a0_7, .string a0_8, .slice A0_9 l0_9.length c0_9] 31 (0, 0)) (zB BK133.out) hb); have n1_ := Aside0.mk (below_step zz2 hb); clear BK133; clear HB; have BK133 := n0_; have HB := n1_; clear n0_ n1_; (try clear hb); (try clear hb2); (try clear hk); (try clear hi); obtain ⟨_, _, _, _, _, _, _, _, _, _, _, _, _, _, _, _, _, _, _, _⟩ := zC10 BK133.out) | (go_at_call 19; (with_reducible refine (value_Good.calls a0_1 a0_2 a0_3 t143 _ A58.out).mono ?_); rintro e w63 ⟨rfl, hb⟩; have n0_ := Aside0.mk (blk_below (g := gb133) (o := .cells #[.int .i64 a0_0, .int .i64 a0_1, .int .i64 a0_2, .string a0_3, .int .i64 a0_4, .int .i64 a0_5, .int .i64 a0_6, .int .i64 a0_7, .string a0_8, .slice A0_9 l0_9.length c0_9] 31 (0, 0)) (zB BK133.out) hb); have n1_ := Aside0.mk (below_step zz2 hb); clear BK133; clear HB; have BK133 := n0_; have HB := n1_; clear n0_ n1_; (try clear hb); (try clear hb2); (try clear hk); (try clear hi)))
            go_ret
            exact ⟨zz26, zz2⟩
          · rw [if_neg c57] at H
            have c57b0 : (a0_1 == 1) = false := beq_eq_false_iff_ne.mpr c57
            have c57b1 : (a0_1 != 1) = true := bne_iff_ne.mpr c57
            obtain rfl := Option.some.inj H
            go_enter Tryz.func43, Tryz.ntmps43
            go_wp2_with (first | ((with_reducible refine gate_dst (N := 1) rfl ?_); (try (refine gate_guard (by rfl) ?_; dsimp only)); refine box_event ?hg (N := 1) ?hd (cs := #[.int .i64 a0_0, .int .i64 a0_1, .int .i64 a0_2, .string a0_3, .int .i64 a0_4, .int .i64 a0_5, .int .i64 a0_6, .int .i64 a0_7, .string a0_8, .slice A0_9 l0_9.length c0_9]) (t := 31) ?hr ?_; (case hd => rfl); (case hg => rfl); (case hr => first | (go_simp; done) | (go_simp; rfl)); intro gb133 hg w64 hbox hb; have n0_ := Aside0.mk (below_step zz1 hb); have n1_ := Aside0.mk (hbox); have n2_ := Aside0.mk ((by rw [hg]; exact (below_size zz1) : w.heap.size ≤ gb133)); have n3_ := n2_; clear HB; have HB := n0_; have BK133 := n1_; have GW133 := n2_; have GE133 := n3_; clear n0_ n1_ n2_ n3_; clear hb hbox hg; obtain ⟨_, _, _, _, _, _, _, _, _, _, _, _, _, _, _, _, _, _, _, _⟩ := zC10 BK133.out) | ((with_reducible refine gate_callee (f := 63) rfl ?_); refine goesL_ (some 31) rfl rfl Tryz.func63 (by kernel_rfl) rfl #[.agg #[.int .i64 a0_0, .int .i64 a0_1, .int .i64 a0_2, .string a0_3, .int .i64 a0_4, .int .i64 a0_5, .int .i64 a0_6, .int .i64 a0_7, .string a0_8, .slice A0_9 l0_9.length c0_9], .bool true, .bool false, .bool false, .int .i64 0, .int .i64 0] rfl zz25 ?_; (with_reducible refine (tree_fields.calls a0_0 a0_1 a0_2 a0_3 a0_4 a0_5 a0_6 a0_7 a0_8 _ _ l0_9 true false false 0 0 true _ ?side1 ?side2 A55.out).mono ?_); (case side1 => repeat (first | exact (Kd.C_below HR0_9.out HB.out) | (with_reducible refine Kd.C_alloc ?_ _) | (with_reducible refine Kd.C_drewN ?_ _) | (with_reducible refine Kd.C_drew ?_))); (case side2 => exact HC0_9.out); rintro e w66 ⟨rfl, hb⟩; refine ⟨_, rfl, ?_⟩; have n0_ := Aside0.mk (blk_below (g := gb133) (o := .cells #[.int .i64 a0_0, .int .i64 a0_1, .int .i64 a0_2, .string a0_3, .int .i64 a0_4, .int .i64 a0_5, .int .i64 a0_6, .int .i64 a0_7, .string a0_8, .slice A0_9 l0_9.length c0_9] 31 (0, 0)) (zB BK133.out) hb); have n1_ := Aside0.mk (below_step zz2 hb); clear BK133; clear HB; have BK133 := n0_; have HB := n1_; clear n0_ n1_; (try clear hb); (try clear hb2); (try clear hk); (try clear hi)))
            go_ret
            exact ⟨zz26, zz2⟩
        · replace c56 := Bool.eq_false_iff.mpr c56
          subst c56
          have H1 : (some false) = some r := by rw [if_neg (show ¬ (false = true) by decide)] at H; exact H
          clear H
          have H := H1
          clear H1
          obtain rfl := Option.some.inj H
          go_enter Tryz.func43, Tryz.ntmps43
          go_wp2_with (first | ((with_reducible refine gate_dst (N := 1) rfl ?_); (try (refine gate_guard (by rfl) ?_; dsimp only)); refine box_event ?hg (N := 1) ?hd (cs := #[.int .i64 a0_0, .int .i64 a0_1, .int .i64 a0_2, .string a0_3, .int .i64 a0_4, .int .i64 a0_5, .int .i64 a0_6, .int .i64 a0_7, .string a0_8, .slice A0_9 l0_9.length c0_9]) (t := 31) ?hr ?_; (case hd => rfl); (case hg => rfl); (case hr => first | (go_simp; done) | (go_simp; rfl)); intro gb133 hg w67 hbox hb; have n0_ := Aside0.mk (below_step zz1 hb); have n1_ := Aside0.mk (hbox); have n2_ := Aside0.mk ((by rw [hg]; exact (below_size zz1) : w.heap.size ≤ gb133)); have n3_ := n2_; clear HB; have HB := n0_; have BK133 := n1_; have GW133 := n2_; have GE133 := n3_; clear n0_ n1_ n2_ n3_; clear hb hbox hg; obtain ⟨_, _, _, _, _, _, _, _, _, _, _, _, _, _, _, _, _, _, _, _⟩ := zC10 BK133.out) | ((with_reducible refine gate_callee (f := 63) rfl ?_); refine goesL_ (some 31) rfl rfl Tryz.func63 (by kernel_rfl) rfl #[.agg #[.int .i64 a0_0, .int .i64 a0_1, .int .i64 a0_2, .string a0_3, .int .i64 a0_4, .int .i64 a0_5, .int .i64 a0_6, .int .i64 a0_7, .string a0_8, .slice A0_9 l0_9.length c0_9], .bool true, .bool false, .bool false, .int .i64 0, .int .i64 0] rfl zz25 ?_; (with_reducible refine (tree_fields.calls a0_0 a0_1 a0_2 a0_3 a0_4 a0_5 a0_6 a0_7 a0_8 _ _ l0_9 true false false 0 0 false _ ?side1 ?side2 A55.out).mono ?_); (case side1 => repeat (first | exact (Kd.C_below HR0_9.out HB.out) | (with_reducible refine Kd.C_alloc ?_ _) | (with_reducible refine Kd.C_drewN ?_ _) | (with_reducible refine Kd.C_drew ?_))); (case side2 => exact HC0_9.out); rintro e w69 ⟨rfl, hb⟩; refine ⟨_, rfl, ?_⟩; have n0_ := Aside0.mk (blk_below (g := gb133) (o := .cells #[.int .i64 a0_0, .int .i64 a0_1, .int .i64 a0_2, .string a0_3, .int .i64 a0_4, .int .i64 a0_5, .int .i64 a0_6, .int .i64 a0_7, .string a0_8, .slice A0_9 l0_9.length c0_9] 31 (0, 0)) (zB BK133.out) hb); have n1_ := Aside0.mk (below_step zz2 hb); clear BK133; clear HB; have BK133 := n0_; have HB := n1_; clear n0_ n1_; (try clear hb); (try clear hb2); (try clear hk); (try clear hi)))
          go_ret
          exact ⟨zz26, zz2⟩
  · rw [if_neg c2] at H
    have c2b0 : (a0_0 == 1) = false := beq_eq_false_iff_ne.mpr c2
    have c2b1 : (a0_0 != 1) = true := bne_iff_ne.mpr c2
    by_cases c70 : a0_0 = 2
    · rw [if_pos c70] at H
      have c70b0 : (a0_0 == 2) = true := beq_iff_eq.mpr c70
      have c70b1 : (a0_0 != 2) = false := bne_eq_false_iff_eq.mpr c70
      clear c70
      replace H := Option.bind_eq_some_iff.mp H
      obtain ⟨t144, A710, H⟩ := H
      replace H : (if t144 = true then ((addr_Good.f a0_4 a0_5).bind fun t145 => (if t145 = true then (some (a0_6 == 0 && (a0_7 == 0))) else (some false))) else (some false)) = some r := H
      have A71 := Aside0.mk A710
      clear A710
      by_cases c72 : t144 = true
      · subst c72
        have H1 : ((addr_Good.f a0_4 a0_5).bind fun t145 => (if t145 = true then (some (a0_6 == 0 && (a0_7 == 0))) else (some false))) = some r := by rw [if_pos rfl] at H; exact H
        clear H
        have H := H1
        clear H1
        replace H := Option.bind_eq_some_iff.mp H
        obtain ⟨t145, A730, H⟩ := H
        replace H : (if t145 = true then (some (a0_6 == 0 && (a0_7 == 0))) else (some false)) = some r := H
        have A73 := Aside0.mk A730
        clear A730
        by_cases c74 : t145 = true
        · subst c74
          have H1 : (some (a0_6 == 0 && (a0_7 == 0))) = some r := by rw [if_pos rfl] at H; exact H
          clear H
          have H := H1
          clear H1
          obtain rfl := Option.some.inj H
          go_enter Tryz.func43, Tryz.ntmps43
          go_wp2_with (first | ((with_reducible refine gate_dst (N := 1) rfl ?_); (try (refine gate_guard (by rfl) ?_; dsimp only)); refine box_event ?hg (N := 1) ?hd (cs := #[.int .i64 a0_0, .int .i64 a0_1, .int .i64 a0_2, .string a0_3, .int .i64 a0_4, .int .i64 a0_5, .int .i64 a0_6, .int .i64 a0_7, .string a0_8, .slice A0_9 l0_9.length c0_9]) (t := 31) ?hr ?_; (case hd => rfl); (case hg => rfl); (case hr => first | (go_simp; done) | (go_simp; rfl)); intro gb133 hg w75 hbox hb; have n0_ := Aside0.mk (below_step zz1 hb); have n1_ := Aside0.mk (hbox); have n2_ := Aside0.mk ((by rw [hg]; exact (below_size zz1) : w.heap.size ≤ gb133)); have n3_ := n2_; clear HB; have HB := n0_; have BK133 := n1_; have GW133 := n2_; have GE133 := n3_; clear n0_ n1_ n2_ n3_; clear hb hbox hg; obtain ⟨_, _, _, _, _, _, _, _, _, _, _, _, _, _, _, _, _, _, _, _⟩ := zC10 BK133.out) | ((with_reducible refine gate_callee (f := 63) rfl ?_); refine goesL_ (some 43) rfl rfl Tryz.func63 (by kernel_rfl) rfl #[.agg #[.int .i64 a0_0, .int .i64 a0_1, .int .i64 a0_2, .string a0_3, .int .i64 a0_4, .int .i64 a0_5, .int .i64 a0_6, .int .i64 a0_7, .string a0_8, .slice A0_9 l0_9.length c0_9], .bool false, .bool true, .bool false, .int .i64 0, .int .i64 0] rfl zz25 ?_; (with_reducible refine (tree_fields.calls a0_0 a0_1 a0_2 a0_3 a0_4 a0_5 a0_6 a0_7 a0_8 _ _ l0_9 false true false 0 0 true _ ?side1 ?side2 A71.out).mono ?_); (case side1 => repeat (first | exact (Kd.C_below HR0_9.out HB.out) | (with_reducible refine Kd.C_alloc ?_ _) | (with_reducible refine Kd.C_drewN ?_ _) | (with_reducible refine Kd.C_drew ?_))); (case side2 => exact HC0_9.out); rintro e w77 ⟨rfl, hb⟩; refine ⟨_, rfl, ?_⟩; have n0_ := Aside0.mk (blk_below (g := gb133) (o := .cells #[.int .i64 a0_0, .int .i64 a0_1, .int .i64 a0_2, .string a0_3, .int .i64 a0_4, .int .i64 a0_5, .int .i64 a0_6, .int .i64 a0_7, .string a0_8, .slice A0_9 l0_9.length c0_9] 31 (0, 0)) (zB BK133.out) hb); have n1_ := Aside0.mk (below_step zz2 hb); clear BK133; clear HB; have BK133 := n0_; have HB := n1_; clear n0_ n1_; (try clear hb); (try clear hb2); (try clear hk); (try clear hi); obtain ⟨_, _, _, _, _, _, _, _, _, _, _, _, _, _, _, _, _, _, _, _⟩ := zC10 BK133.out) | (go_at_call 48; (with_reducible refine (addr_Good.calls a0_4 a0_5 true _ A73.out).mono ?_); rintro e w79 ⟨rfl, hb⟩; have n0_ := Aside0.mk (blk_below (g := gb133) (o := .cells #[.int .i64 a0_0, .int .i64 a0_1, .int .i64 a0_2, .string a0_3, .int .i64 a0_4, .int .i64 a0_5, .int .i64 a0_6, .int .i64 a0_7, .string a0_8, .slice A0_9 l0_9.length c0_9] 31 (0, 0)) (zB BK133.out) hb); have n1_ := Aside0.mk (below_step zz2 hb); clear BK133; clear HB; have BK133 := n0_; have HB := n1_; clear n0_ n1_; (try clear hb); (try clear hb2); (try clear hk); (try clear hi); obtain ⟨_, _, _, _, _, _, _, _, _, _, _, _, _, _, _, _, _, _, _, _⟩ := zC10 BK133.out))
          go_ret
          exact ⟨zz26, zz2⟩
        · replace c74 := Bool.eq_false_iff.mpr c74
          subst c74
          have H1 : (some false) = some r := by rw [if_neg (show ¬ (false = true) by decide)] at H; exact H
          clear H
          have H := H1
          clear H1
          obtain rfl := Option.some.inj H
          go_enter Tryz.func43, Tryz.ntmps43
          go_wp2_with (first | ((with_reducible refine gate_dst (N := 1) rfl ?_); (try (refine gate_guard (by rfl) ?_; dsimp only)); refine box_event ?hg (N := 1) ?hd (cs := #[.int .i64 a0_0, .int .i64 a0_1, .int .i64 a0_2, .string a0_3, .int .i64 a0_4, .int .i64 a0_5, .int .i64 a0_6, .int .i64 a0_7, .string a0_8, .slice A0_9 l0_9.length c0_9]) (t := 31) ?hr ?_; (case hd => rfl); (case hg => rfl); (case hr => first | (go_simp; done) | (go_simp; rfl)); intro gb133 hg w81 hbox hb; have n0_ := Aside0.mk (below_step zz1 hb); have n1_ := Aside0.mk (hbox); have n2_ := Aside0.mk ((by rw [hg]; exact (below_size zz1) : w.heap.size ≤ gb133)); have n3_ := n2_; clear HB; have HB := n0_; have BK133 := n1_; have GW133 := n2_; have GE133 := n3_; clear n0_ n1_ n2_ n3_; clear hb hbox hg; obtain ⟨_, _, _, _, _, _, _, _, _, _, _, _, _, _, _, _, _, _, _, _⟩ := zC10 BK133.out) | ((with_reducible refine gate_callee (f := 63) rfl ?_); refine goesL_ (some 43) rfl rfl Tryz.func63 (by kernel_rfl) rfl #[.agg #[.int .i64 a0_0, .int .i64 a0_1, .int .i64 a0_2, .string a0_3, .int .i64 a0_4, .int .i64 a0_5, .int .i64 a0_6, .int .i64 a0_7, .string a0_8, .slice A0_9 l0_9.length c0_9], .bool false, .bool true, .bool false, .int .i64 0, .int .i64 0] rfl zz25 ?_; (with_reducible refine (tree_fields.calls a0_0 a0_1 a0_2 a0_3 a0_4 a0_5 a0_6 a0_7 a0_8 _ _ l0_9 false true false 0 0 true _ ?side1 ?side2 A71.out).mono ?_); (case side1 => repeat (first | exact (Kd.C_below HR0_9.out HB.out) | (with_reducible refine Kd.C_alloc ?_ _) | (with_reducible refine Kd.C_drewN ?_ _) | (with_reducible refine Kd.C_drew ?_))); (case side2 => exact HC0_9.out); rintro e w83 ⟨rfl, hb⟩; refine ⟨_, rfl, ?_⟩; have n0_ := Aside0.mk (blk_below (g := gb133) (o := .cells #[.int .i64 a0_0, .int .i64 a0_1, .int .i64 a0_2, .string a0_3, .int .i64 a0_4, .int .i64 a0_5, .int .i64 a0_6, .int .i64 a0_7, .string a0_8, .slice A0_9 l0_9.length c0_9] 31 (0, 0)) (zB BK133.out) hb); have n1_ := Aside0.mk (below_step zz2 hb); clear BK133; clear HB; have BK133 := n0_; have HB := n1_; clear n0_ n1_; (try clear hb); (try clear hb2); (try clear hk); (try clear hi); obtain ⟨_, _, _, _, _, _, _, _, _, _, _, _, _, _, _, _, _, _, _, _⟩ := zC10 BK133.out) | (go_at_call 48; (with_reducible refine (addr_Good.calls a0_4 a0_5 false _ A73.out).mono ?_); rintro e w85 ⟨rfl, hb⟩; have n0_ := Aside0.mk (blk_below (g := gb133) (o := .cells #[.int .i64 a0_0, .int .i64 a0_1, .int .i64 a0_2, .string a0_3, .int .i64 a0_4, .int .i64 a0_5, .int .i64 a0_6, .int .i64 a0_7, .string a0_8, .slice A0_9 l0_9.length c0_9] 31 (0, 0)) (zB BK133.out) hb); have n1_ := Aside0.mk (below_step zz2 hb); clear BK133; clear HB; have BK133 := n0_; have HB := n1_; clear n0_ n1_; (try clear hb); (try clear hb2); (try clear hk); (try clear hi)))
          go_ret
          exact ⟨zz26, zz2⟩
      · replace c72 := Bool.eq_false_iff.mpr c72
        subst c72
        have H1 : (some false) = some r := by rw [if_neg (show ¬ (false = true) by decide)] at H; exact H
        clear H
        have H := H1
        clear H1
        obtain rfl := Option.some.inj H
        go_enter Tryz.func43, Tryz.ntmps43
        go_wp2_with (first | ((with_reducible refine gate_dst (N := 1) rfl ?_); (try (refine gate_guard (by rfl) ?_; dsimp only)); refine box_event ?hg (N := 1) ?hd (cs := #[.int .i64 a0_0, .int .i64 a0_1, .int .i64 a0_2, .string a0_3, .int .i64 a0_4, .int .i64 a0_5, .int .i64 a0_6, .int .i64 a0_7, .string a0_8, .slice A0_9 l0_9.length c0_9]) (t := 31) ?hr ?_; (case hd => rfl); (case hg => rfl); (case hr => first | (go_simp; done) | (go_simp; rfl)); intro gb133 hg w86 hbox hb; have n0_ := Aside0.mk (below_step zz1 hb); have n1_ := Aside0.mk (hbox); have n2_ := Aside0.mk ((by rw [hg]; exact (below_size zz1) : w.heap.size ≤ gb133)); have n3_ := n2_; clear HB; have HB := n0_; have BK133 := n1_; have GW133 := n2_; have GE133 := n3_; clear n0_ n1_ n2_ n3_; clear hb hbox hg; obtain ⟨_, _, _, _, _, _, _, _, _, _, _, _, _, _, _, _, _, _, _, _⟩ := zC10 BK133.out) | ((with_reducible refine gate_callee (f := 63) rfl ?_); refine goesL_ (some 43) rfl rfl Tryz.func63 (by kernel_rfl) rfl #[.agg #[.int .i64 a0_0, .int .i64 a0_1, .int .i64 a0_2, .string a0_3, .int .i64 a0_4, .int .i64 a0_5, .int .i64 a0_6, .int .i64 a0_7, .string a0_8, .slice A0_9 l0_9.length c0_9], .bool false, .bool true, .bool false, .int .i64 0, .int .i64 0] rfl zz25 ?_; (with_reducible refine (tree_fields.calls a0_0 a0_1 a0_2 a0_3 a0_4 a0_5 a0_6 a0_7 a0_8 _ _ l0_9 false true false 0 0 false _ ?side1 ?side2 A71.out).mono ?_); (case side1 => repeat (first | exact (Kd.C_below HR0_9.out HB.out) | (with_reducible refine Kd.C_alloc ?_ _) | (with_reducible refine Kd.C_drewN ?_ _) | (with_reducible refine Kd.C_drew ?_))); (case side2 => exact HC0_9.out); rintro e w88 ⟨rfl, hb⟩; refine ⟨_, rfl, ?_⟩; have n0_ := Aside0.mk (blk_below (g := gb133) (o := .cells #[.int .i64 a0_0, .int .i64 a0_1, .int .i64 a0_2, .string a0_3, .int .i64 a0_4, .int .i64 a0_5, .int .i64 a0_6, .int .i64 a0_7, .string a0_8, .slice A0_9 l0_9.length c0_9] 31 (0, 0)) (zB BK133.out) hb); have n1_ := Aside0.mk (below_step zz2 hb); clear BK133; clear HB; have BK133 := n0_; have HB := n1_; clear n0_ n1_; (try clear hb); (try clear hb2); (try clear hk); (try clear hi)))
        go_ret
        exact ⟨zz26, zz2⟩
    · rw [if_neg c70] at H
      have c70b0 : (a0_0 == 2) = false := beq_eq_false_iff_ne.mpr c70
      have c70b1 : (a0_0 != 2) = true := bne_iff_ne.mpr c70
      by_cases c89 : a0_0 = 3
      · rw [if_pos c89] at H
        have c89b0 : (a0_0 == 3) = true := beq_iff_eq.mpr c89
        have c89b1 : (a0_0 != 3) = false := bne_eq_false_iff_eq.mpr c89
        clear c89
        replace H := Option.bind_eq_some_iff.mp H
        obtain ⟨t146, A900, H⟩ := H
        replace H : (if t146 = true then ((addr_Fine.f a0_4 a0_5 a0_6 a0_7).bind fun t147 => (some t147)) else (some false)) = some r := H
        have A90 := Aside0.mk A900
        clear A900
        by_cases c91 : t146 = true
        · subst c91
          have H1 : ((addr_Fine.f a0_4 a0_5 a0_6 a0_7).bind fun t147 => (some t147)) = some r := by rw [if_pos rfl] at H; exact H
          clear H
          have H := H1
          clear H1
          replace H := Option.bind_eq_some_iff.mp H
          obtain ⟨t147, A920, H⟩ := H
          replace H : (some t147) = some r := H
          have A92 := Aside0.mk A920
          clear A920
          obtain rfl := Option.some.inj H
          go_enter Tryz.func43, Tryz.ntmps43
          go_wp2_with (first | ((with_reducible refine gate_dst (N := 1) rfl ?_); (try (refine gate_guard (by rfl) ?_; dsimp only)); refine box_event ?hg (N := 1) ?hd (cs := #[.int .i64 a0_0, .int .i64 a0_1, .int .i64 a0_2, .string a0_3, .int .i64 a0_4, .int .i64 a0_5, .int .i64 a0_6, .int .i64 a0_7, .string a0_8, .slice A0_9 l0_9.length c0_9]) (t := 31) ?hr ?_; (case hd => rfl); (case hg => rfl); (case hr => first | (go_simp; done) | (go_simp; rfl)); intro gb133 hg w93 hbox hb; have n0_ := Aside0.mk (below_step zz1 hb); have n1_ := Aside0.mk (hbox); have n2_ := Aside0.mk ((by rw [hg]; exact (below_size zz1) : w.heap.size ≤ gb133)); have n3_ := n2_; clear HB; have HB := n0_; have BK133 := n1_; have GW133 := n2_; have GE133 := n3_; clear n0_ n1_ n2_ n3_; clear hb hbox hg; obtain ⟨_, _, _, _, _, _, _, _, _, _, _, _, _, _, _, _, _, _, _, _⟩ := zC10 BK133.out) | ((with_reducible refine gate_callee (f := 63) rfl ?_); refine goesL_ (some 60) rfl rfl Tryz.func63 (by kernel_rfl) rfl #[.agg #[.int .i64 a0_0, .int .i64 a0_1, .int .i64 a0_2, .string a0_3, .int .i64 a0_4, .int .i64 a0_5, .int .i64 a0_6, .int .i64 a0_7, .string a0_8, .slice A0_9 l0_9.length c0_9], .bool false, .bool true, .bool false, .int .i64 0, .int .i64 0] rfl zz25 ?_; (with_reducible refine (tree_fields.calls a0_0 a0_1 a0_2 a0_3 a0_4 a0_5 a0_6 a0_7 a0_8 _ _ l0_9 false true false 0 0 true _ ?side1 ?side2 A90.out).mono ?_); (case side1 => repeat (first | exact (Kd.C_below HR0_9.out HB.out) | (with_reducible refine Kd.C_alloc ?_ _) | (with_reducible refine Kd.C_drewN ?_ _) | (with_reducible refine Kd.C_drew ?_))); (case side2 => exact HC0_9.out); rintro e w95 ⟨rfl, hb⟩; refine ⟨_, rfl, ?_⟩; have n0_ := Aside0.mk (blk_below (g := gb133) (o := .cells #[.int .i64 a0_0, .int .i64 a0_1, .int .i64 a0_2, .string a0_3, .int .i64 a0_4, .int .i64 a0_5, .int .i64 a0_6, .int .i64 a0_7, .string a0_8, .slice A0_9 l0_9.length c0_9] 31 (0, 0)) (zB BK133.out) hb); have n1_ := Aside0.mk (below_step zz2 hb); clear BK133; clear HB; have BK133 := n0_; have HB := n1_; clear n0_ n1_; (try clear hb); (try clear hb2); (try clear hk); (try clear hi); obtain ⟨_, _, _, _, _, _, _, _, _, _, _, _, _, _, _, _, _, _, _, _⟩ := zC10 BK133.out) | (go_at_call 64; (with_reducible refine (addr_Fine.calls a0_4 a0_5 a0_6 a0_7 t147 _ A92.out).mono ?_); rintro e w97 ⟨rfl, hb⟩; have n0_ := Aside0.mk (blk_below (g := gb133) (o := .cells #[.int .i64 a0_0, .int .i64 a0_1, .int .i64 a0_2, .string a0_3, .int .i64 a0_4, .int .i64 a0_5, .int .i64 a0_6, .int .i64 a0_7, .string a0_8, .slice A0_9 l0_9.length c0_9] 31 (0, 0)) (zB BK133.out) hb); have n1_ := Aside0.mk (below_step zz2 hb); clear BK133; clear HB; have BK133 := n0_; have HB := n1_; clear n0_ n1_; (try clear hb); (try clear hb2); (try clear hk); (try clear hi)))
          go_ret
          exact ⟨zz26, zz2⟩
        · replace c91 := Bool.eq_false_iff.mpr c91
          subst c91
          have H1 : (some false) = some r := by rw [if_neg (show ¬ (false = true) by decide)] at H; exact H
          clear H
          have H := H1
          clear H1
          obtain rfl := Option.some.inj H
          go_enter Tryz.func43, Tryz.ntmps43
          go_wp2_with (first | ((with_reducible refine gate_dst (N := 1) rfl ?_); (try (refine gate_guard (by rfl) ?_; dsimp only)); refine box_event ?hg (N := 1) ?hd (cs := #[.int .i64 a0_0, .int .i64 a0_1, .int .i64 a0_2, .string a0_3, .int .i64 a0_4, .int .i64 a0_5, .int .i64 a0_6, .int .i64 a0_7, .string a0_8, .slice A0_9 l0_9.length c0_9]) (t := 31) ?hr ?_; (case hd => rfl); (case hg => rfl); (case hr => first | (go_simp; done) | (go_simp; rfl)); intro gb133 hg w98 hbox hb; have n0_ := Aside0.mk (below_step zz1 hb); have n1_ := Aside0.mk (hbox); have n2_ := Aside0.mk ((by rw [hg]; exact (below_size zz1) : w.heap.size ≤ gb133)); have n3_ := n2_; clear HB; have HB := n0_; have BK133 := n1_; have GW133 := n2_; have GE133 := n3_; clear n0_ n1_ n2_ n3_; clear hb hbox hg; obtain ⟨_, _, _, _, _, _, _, _, _, _, _, _, _, _, _, _, _, _, _, _⟩ := zC10 BK133.out) | ((with_reducible refine gate_callee (f := 63) rfl ?_); refine goesL_ (some 60) rfl rfl Tryz.func63 (by kernel_rfl) rfl #[.agg #[.int .i64 a0_0, .int .i64 a0_1, .int .i64 a0_2, .string a0_3, .int .i64 a0_4, .int .i64 a0_5, .int .i64 a0_6, .int .i64 a0_7, .string a0_8, .slice A0_9 l0_9.length c0_9], .bool false, .bool true, .bool false, .int .i64 0, .int .i64 0] rfl zz25 ?_; (with_reducible refine (tree_fields.calls a0_0 a0_1 a0_2 a0_3 a0_4 a0_5 a0_6 a0_7 a0_8 _ _ l0_9 false true false 0 0 false _ ?side1 ?side2 A90.out).mono ?_); (case side1 => repeat (first | exact (Kd.C_below HR0_9.out HB.out) | (with_reducible refine Kd.C_alloc ?_ _) | (with_reducible refine Kd.C_drewN ?_ _) | (with_reducible refine Kd.C_drew ?_))); (case side2 => exact HC0_9.out); rintro e w100 ⟨rfl, hb⟩; refine ⟨_, rfl, ?_⟩; have n0_ := Aside0.mk (blk_below (g := gb133) (o := .cells #[.int .i64 a0_0, .int .i64 a0_1, .int .i64 a0_2, .string a0_3, .int .i64 a0_4, .int .i64 a0_5, .int .i64 a0_6, .int .i64 a0_7, .string a0_8, .slice A0_9 l0_9.length c0_9] 31 (0, 0)) (zB BK133.out) hb); have n1_ := Aside0.mk (below_step zz2 hb); clear BK133; clear HB; have BK133 := n0_; have HB := n1_; clear n0_ n1_; (try clear hb); (try clear hb2); (try clear hk); (try clear hi)))
          go_ret
          exact ⟨zz26, zz2⟩
      · rw [if_neg c89] at H
        have c89b0 : (a0_0 == 3) = false := beq_eq_false_iff_ne.mpr c89
        have c89b1 : (a0_0 != 3) = true := bne_iff_ne.mpr c89
        by_cases c101 : a0_0 = 4
        · rw [if_pos c101] at H
          have c101b0 : (a0_0 == 4) = true := beq_iff_eq.mpr c101
          have c101b1 : (a0_0 != 4) = false := bne_eq_false_iff_eq.mpr c101
          clear c101
          replace H := Option.bind_eq_some_iff.mp H
          obtain ⟨t148, A1020, H⟩ := H
          replace H : (some t148) = some r := H
          have A102 := Aside0.mk A1020
          clear A1020
          obtain rfl := Option.some.inj H
          go_enter Tryz.func43, Tryz.ntmps43
          go_wp2_with (first | ((with_reducible refine gate_dst (N := 1) rfl ?_); (try (refine gate_guard (by rfl) ?_; dsimp only)); refine box_event ?hg (N := 1) ?hd (cs := #[.int .i64 a0_0, .int .i64 a0_1, .int .i64 a0_2, .string a0_3, .int .i64 a0_4, .int .i64 a0_5, .int .i64 a0_6, .int .i64 a0_7, .string a0_8, .slice A0_9 l0_9.length c0_9]) (t := 31) ?hr ?_; (case hd => rfl); (case hg => rfl); (case hr => first | (go_simp; done) | (go_simp; rfl)); intro gb133 hg w103 hbox hb; have n0_ := Aside0.mk (below_step zz1 hb); have n1_ := Aside0.mk (hbox); have n2_ := Aside0.mk ((by rw [hg]; exact (below_size zz1) : w.heap.size ≤ gb133)); have n3_ := n2_; clear HB; have HB := n0_; have BK133 := n1_; have GW133 := n2_; have GE133 := n3_; clear n0_ n1_ n2_ n3_; clear hb hbox hg; obtain ⟨_, _, _, _, _, _, _, _, _, _, _, _, _, _, _, _, _, _, _, _⟩ := zC10 BK133.out) | ((with_reducible refine gate_callee (f := 63) rfl ?_); refine goesL_ (some 69) rfl rfl Tryz.func63 (by kernel_rfl) rfl #[.agg #[.int .i64 a0_0, .int .i64 a0_1, .int .i64 a0_2, .string a0_3, .int .i64 a0_4, .int .i64 a0_5, .int .i64 a0_6, .int .i64 a0_7, .string a0_8, .slice A0_9 l0_9.length c0_9], .bool false, .bool false, .bool false, .int .i64 1, .int .i64 1] rfl zz25 ?_; (with_reducible refine (tree_fields.calls a0_0 a0_1 a0_2 a0_3 a0_4 a0_5 a0_6 a0_7 a0_8 _ _ l0_9 false false false 1 1 t148 _ ?side1 ?side2 A102.out).mono ?_); (case side1 => repeat (first | exact (Kd.C_below HR0_9.out HB.out) | (with_reducible refine Kd.C_alloc ?_ _) | (with_reducible refine Kd.C_drewN ?_ _) | (with_reducible refine Kd.C_drew ?_))); (case side2 => exact HC0_9.out); rintro e w105 ⟨rfl, hb⟩; refine ⟨_, rfl, ?_⟩; have n0_ := Aside0.mk (blk_below (g := gb133) (o := .cells #[.int .i64 a0_0, .int .i64 a0_1, .int .i64 a0_2, .string a0_3, .int .i64 a0_4, .int .i64 a0_5, .int .i64 a0_6, .int .i64 a0_7, .string a0_8, .slice A0_9 l0_9.length c0_9] 31 (0, 0)) (zB BK133.out) hb); have n1_ := Aside0.mk (below_step zz2 hb); clear BK133; clear HB; have BK133 := n0_; have HB := n1_; clear n0_ n1_; (try clear hb); (try clear hb2); (try clear hk); (try clear hi)))
          go_ret
          exact ⟨zz26, zz2⟩
        · rw [if_neg c101] at H
          have c101b0 : (a0_0 == 4) = false := beq_eq_false_iff_ne.mpr c101
          have c101b1 : (a0_0 != 4) = true := bne_iff_ne.mpr c101
          by_cases c106 : a0_0 = 5
          · rw [if_pos c106] at H
            have c106b0 : (a0_0 == 5) = true := beq_iff_eq.mpr c106
            have c106b1 : (a0_0 != 5) = false := bne_eq_false_iff_eq.mpr c106
            clear c106
            replace H := Option.bind_eq_some_iff.mp H
            obtain ⟨t149, A1070, H⟩ := H
            replace H : (if t149 = true then ((slices_Contains_string_string.f k (([(⟨#[61]⟩ : ByteArray), (⟨#[60, 62]⟩ : ByteArray), (⟨#[60]⟩ : ByteArray), (⟨#[60, 61]⟩ : ByteArray), (⟨#[62]⟩ : ByteArray), (⟨#[62, 61]⟩ : ByteArray), (⟨#[43]⟩ : ByteArray), (⟨#[45]⟩ : ByteArray), (⟨#[38]⟩ : ByteArray), (⟨#[42]⟩ : ByteArray), (⟨#[47]⟩ : ByteArray), (⟨#[37]⟩ : ByteArray), (⟨#[94]⟩ : ByteArray)] : List ByteArray)) a0_8).bind fun t153 => (some t153)) else (some false)) = some r := H
            have A107 := Aside0.mk A1070
            clear A1070
            by_cases c108 : t149 = true
            · subst c108
              have H1 : ((slices_Contains_string_string.f k (([(⟨#[61]⟩ : ByteArray), (⟨#[60, 62]⟩ : ByteArray), (⟨#[60]⟩ : ByteArray), (⟨#[60, 61]⟩ : ByteArray), (⟨#[62]⟩ : ByteArray), (⟨#[62, 61]⟩ : ByteArray), (⟨#[43]⟩ : ByteArray), (⟨#[45]⟩ : ByteArray), (⟨#[38]⟩ : ByteArray), (⟨#[42]⟩ : ByteArray), (⟨#[47]⟩ : ByteArray), (⟨#[37]⟩ : ByteArray), (⟨#[94]⟩ : ByteArray)] : List ByteArray)) a0_8).bind fun t153 => (some t153)) = some r := by rw [if_pos rfl] at H; exact H
              clear H
              have H := H1
              clear H1
              obtain ⟨y150, hy150⟩ : ∃ y_ : List ByteArray, y_ = (([(⟨#[61]⟩ : ByteArray), (⟨#[60, 62]⟩ : ByteArray), (⟨#[60]⟩ : ByteArray), (⟨#[60, 61]⟩ : ByteArray), (⟨#[62]⟩ : ByteArray), (⟨#[62, 61]⟩ : ByteArray), (⟨#[43]⟩ : ByteArray), (⟨#[45]⟩ : ByteArray), (⟨#[38]⟩ : ByteArray), (⟨#[42]⟩ : ByteArray), (⟨#[47]⟩ : ByteArray), (⟨#[37]⟩ : ByteArray), (⟨#[94]⟩ : ByteArray)] : List ByteArray)) := ⟨_, rfl⟩
              replace H : ((slices_Contains_string_string.f k y150 a0_8).bind fun t153 => (some t153)) = some r := by first | (rw [hy150]; with_reducible exact H) | (have H2_ := (Option.bind_some _ _).symm.trans H; rw [hy150]; with_reducible exact H2_) | (have H2_ := (Option.bind_some _ _).symm.trans H; with_reducible exact H2_) | with_reducible exact H | (rw [hy150]; exact H) | exact H
              have Ny150 := Aside0.mk hy150
              clear hy150
              replace H := Option.bind_eq_some_iff.mp H
              obtain ⟨t153, A1090, H⟩ := H
              replace H : (some t153) = some r := H
              have A109 := Aside0.mk A1090
              clear A1090
              obtain rfl := Option.some.inj H
              go_enter Tryz.func43, Tryz.ntmps43
              go_wp2_with (first | ((with_reducible refine gate_dst (N := 1) rfl ?_); (try (refine gate_guard (by rfl) ?_; dsimp only)); refine box_event ?hg (N := 1) ?hd (cs := #[.int .i64 a0_0, .int .i64 a0_1, .int .i64 a0_2, .string a0_3, .int .i64 a0_4, .int .i64 a0_5, .int .i64 a0_6, .int .i64 a0_7, .string a0_8, .slice A0_9 l0_9.length c0_9]) (t := 31) ?hr ?_; (case hd => rfl); (case hg => rfl); (case hr => first | (go_simp; done) | (go_simp; rfl)); intro gb133 hg w110 hbox hb; have n0_ := Aside0.mk (below_step zz1 hb); have n1_ := Aside0.mk (hbox); have n2_ := Aside0.mk ((by rw [hg]; exact (below_size zz1) : w.heap.size ≤ gb133)); have n3_ := n2_; clear HB; have HB := n0_; have BK133 := n1_; have GW133 := n2_; have GE133 := n3_; clear n0_ n1_ n2_ n3_; clear hb hbox hg; obtain ⟨_, _, _, _, _, _, _, _, _, _, _, _, _, _, _, _, _, _, _, _⟩ := zC10 BK133.out) | ((with_reducible refine gate_callee (f := 63) rfl ?_); refine goesL_ (some 73) rfl rfl Tryz.func63 (by kernel_rfl) rfl #[.agg #[.int .i64 a0_0, .int .i64 a0_1, .int .i64 a0_2, .string a0_3, .int .i64 a0_4, .int .i64 a0_5, .int .i64 a0_6, .int .i64 a0_7, .string a0_8, .slice A0_9 l0_9.length c0_9], .bool false, .bool false, .bool true, .int .i64 2, .int .i64 2] rfl zz25 ?_; (with_reducible refine (tree_fields.calls a0_0 a0_1 a0_2 a0_3 a0_4 a0_5 a0_6 a0_7 a0_8 _ _ l0_9 false false true 2 2 true _ ?side1 ?side2 A107.out).mono ?_); (case side1 => repeat (first | exact (Kd.C_below HR0_9.out HB.out) | (with_reducible refine Kd.C_alloc ?_ _) | (with_reducible refine Kd.C_drewN ?_ _) | (with_reducible refine Kd.C_drew ?_))); (case side2 => exact HC0_9.out); rintro e w112 ⟨rfl, hb⟩; refine ⟨_, rfl, ?_⟩; have n0_ := Aside0.mk (blk_below (g := gb133) (o := .cells #[.int .i64 a0_0, .int .i64 a0_1, .int .i64 a0_2, .string a0_3, .int .i64 a0_4, .int .i64 a0_5, .int .i64 a0_6, .int .i64 a0_7, .string a0_8, .slice A0_9 l0_9.length c0_9] 31 (0, 0)) (zB BK133.out) hb); have n1_ := Aside0.mk (below_step zz2 hb); clear BK133; clear HB; have BK133 := n0_; have HB := n1_; clear n0_ n1_; (try clear hb); (try clear hb2); (try clear hk); (try clear hi)) | ((with_reducible refine gate_dst (N := 75) rfl ?_); (try (refine gate_guard (by rfl) ?_; dsimp only)); refine Kd.R_lit Kd.string _ 9 ?hg (N := 75) ?hd (xs := ([(⟨#[61]⟩ : ByteArray), (⟨#[60, 62]⟩ : ByteArray), (⟨#[60]⟩ : ByteArray), (⟨#[60, 61]⟩ : ByteArray), (⟨#[62]⟩ : ByteArray), (⟨#[62, 61]⟩ : ByteArray), (⟨#[43]⟩ : ByteArray), (⟨#[45]⟩ : ByteArray), (⟨#[38]⟩ : ByteArray), (⟨#[42]⟩ : ByteArray), (⟨#[47]⟩ : ByteArray), (⟨#[37]⟩ : ByteArray), (⟨#[94]⟩ : ByteArray)] : List ByteArray)) (inner := [.string (⟨#[61]⟩ : ByteArray), .string (⟨#[60, 62]⟩ : ByteArray), .string (⟨#[60]⟩ : ByteArray), .string (⟨#[60, 61]⟩ : ByteArray), .string (⟨#[62]⟩ : ByteArray), .string (⟨#[62, 61]⟩ : ByteArray), .string (⟨#[43]⟩ : ByteArray), .string (⟨#[45]⟩ : ByteArray), .string (⟨#[38]⟩ : ByteArray), .string (⟨#[42]⟩ : ByteArray), .string (⟨#[47]⟩ : ByteArray), .string (⟨#[37]⟩ : ByteArray), .string (⟨#[94]⟩ : ByteArray)]) (ok := fun _ => True) (okp := fun _ => True) ?hr ?hp (fun _ hk => hk) trivial (Below.refl _ _) (Nat.le_refl _) (by simp) ?_; (case hd => rfl); (case hg => rfl); (case hr => first | (go_simp; done) | (go_simp; rfl)); (case hp => exact (Reps.one (show Kd.M Kd.string _ _ _ (⟨#[61]⟩ : ByteArray) [.string (⟨#[61]⟩ : ByteArray)] from rfl) (Reps.one (show Kd.M Kd.string _ _ _ (⟨#[60, 62]⟩ : ByteArray) [.string (⟨#[60, 62]⟩ : ByteArray)] from rfl) (Reps.one (show Kd.M Kd.string _ _ _ (⟨#[60]⟩ : ByteArray) [.string (⟨#[60]⟩ : ByteArray)] from rfl) (Reps.one (show Kd.M Kd.string _ _ _ (⟨#[60, 61]⟩ : ByteArray) [.string (⟨#[60, 61]⟩ : ByteArray)] from rfl) (Reps.one (show Kd.M Kd.string _ _ _ (⟨#[62]⟩ : ByteArray) [.string (⟨#[62]⟩ : ByteArray)] from rfl) (Reps.one (show Kd.M Kd.string _ _ _ (⟨#[62, 61]⟩ : ByteArray) [.string (⟨#[62, 61]⟩ : ByteArray)] from rfl) (Reps.one (show Kd.M Kd.string _ _ _ (⟨#[43]⟩ : ByteArray) [.string (⟨#[43]⟩ : ByteArray)] from rfl) (Reps.one (show Kd.M Kd.string _ _ _ (⟨#[45]⟩ : ByteArray) [.string (⟨#[45]⟩ : ByteArray)] from rfl) (Reps.one (show Kd.M Kd.string _ _ _ (⟨#[38]⟩ : ByteArray) [.string (⟨#[38]⟩ : ByteArray)] from rfl) (Reps.one (show Kd.M Kd.string _ _ _ (⟨#[42]⟩ : ByteArray) [.string (⟨#[42]⟩ : ByteArray)] from rfl) (Reps.one (show Kd.M Kd.string _ _ _ (⟨#[47]⟩ : ByteArray) [.string (⟨#[47]⟩ : ByteArray)] from rfl) (Reps.one (show Kd.M Kd.string _ _ _ (⟨#[37]⟩ : ByteArray) [.string (⟨#[37]⟩ : ByteArray)] from rfl) (Reps.one (show Kd.M Kd.string _ _ _ (⟨#[94]⟩ : ByteArray) [.string (⟨#[94]⟩ : ByteArray)] from rfl) (Reps.none _ _))))))))))))))); intro v151 w113 ho114 hb hg_ hnew_; clear hg_ hnew_; (first | rw [← Ny150.out] at ho114 | (simp only [Int.reduceToNat] at ho114; rw [← Ny150.out] at ho114)); have n0_ := Aside0.mk (Kd.R_lower ho114 (below_size zz2)); have n1_ := Aside0.mk (blk_below (g := gb133) (o := .cells #[.int .i64 a0_0, .int .i64 a0_1, .int .i64 a0_2, .string a0_3, .int .i64 a0_4, .int .i64 a0_5, .int .i64 a0_6, .int .i64 a0_7, .string a0_8, .slice A0_9 l0_9.length c0_9] 31 (0, 0)) (zB BK133.out) hb); have n2_ := Aside0.mk (below_step zz2 hb); clear BK133; clear HB; have HO152 := n0_; have BK133 := n1_; have HB := n2_; clear n0_ n1_ n2_; clear hb ho114; obtain ⟨_, _, _, _, _, _, _, _, _, _, _, _, _, _, _, _, _, _, _, _⟩ := zC10 BK133.out; obtain ⟨Ao116, co116, eo116⟩ := Kd.R_slice HO152.out; subst eo116) | (go_at_call 65; (with_reducible refine (slices_Contains_string_string.calls k _ _ y150 a0_8 t153 _ ?side1 ?side2 A109.out).mono ?_); (case side1 => repeat (first | exact (Kd.R_reads' HO152.out).2.2 | (with_reducible refine Kd.C_alloc ?_ _) | (with_reducible refine Kd.C_drewN ?_ _) | (with_reducible refine Kd.C_drew ?_))); (case side2 => exact (Kd.R_reads' HO152.out).2.1); rintro e w' ⟨rfl, ⟨nd, rfl⟩⟩))
              go_ret
              exact ⟨zz26, zz2⟩
            · replace c108 := Bool.eq_false_iff.mpr c108
              subst c108
              have H1 : (some false) = some r := by rw [if_neg (show ¬ (false = true) by decide)] at H; exact H
              clear H
              have H := H1
              clear H1
              obtain rfl := Option.some.inj H
              go_enter Tryz.func43, Tryz.ntmps43
              go_wp2_with (first | ((with_reducible refine gate_dst (N := 1) rfl ?_); (try (refine gate_guard (by rfl) ?_; dsimp only)); refine box_event ?hg (N := 1) ?hd (cs := #[.int .i64 a0_0, .int .i64 a0_1, .int .i64 a0_2, .string a0_3, .int .i64 a0_4, .int .i64 a0_5, .int .i64 a0_6, .int .i64 a0_7, .string a0_8, .slice A0_9 l0_9.length c0_9]) (t := 31) ?hr ?_; (case hd => rfl); (case hg => rfl); (case hr => first | (go_simp; done) | (go_simp; rfl)); intro gb133 hg w117 hbox hb; have n0_ := Aside0.mk (below_step zz1 hb); have n1_ := Aside0.mk (hbox); have n2_ := Aside0.mk ((by rw [hg]; exact (below_size zz1) : w.heap.size ≤ gb133)); have n3_ := n2_; clear HB; have HB := n0_; have BK133 := n1_; have GW133 := n2_; have GE133 := n3_; clear n0_ n1_ n2_ n3_; clear hb hbox hg; obtain ⟨_, _, _, _, _, _, _, _, _, _, _, _, _, _, _, _, _, _, _, _⟩ := zC10 BK133.out) | ((with_reducible refine gate_callee (f := 63) rfl ?_); refine goesL_ (some 73) rfl rfl Tryz.func63 (by kernel_rfl) rfl #[.agg #[.int .i64 a0_0, .int .i64 a0_1, .int .i64 a0_2, .string a0_3, .int .i64 a0_4, .int .i64 a0_5, .int .i64 a0_6, .int .i64 a0_7, .string a0_8, .slice A0_9 l0_9.length c0_9], .bool false, .bool false, .bool true, .int .i64 2, .int .i64 2] rfl zz25 ?_; (with_reducible refine (tree_fields.calls a0_0 a0_1 a0_2 a0_3 a0_4 a0_5 a0_6 a0_7 a0_8 _ _ l0_9 false false true 2 2 false _ ?side1 ?side2 A107.out).mono ?_); (case side1 => repeat (first | exact (Kd.C_below HR0_9.out HB.out) | (with_reducible refine Kd.C_alloc ?_ _) | (with_reducible refine Kd.C_drewN ?_ _) | (with_reducible refine Kd.C_drew ?_))); (case side2 => exact HC0_9.out); rintro e w119 ⟨rfl, hb⟩; refine ⟨_, rfl, ?_⟩; have n0_ := Aside0.mk (blk_below (g := gb133) (o := .cells #[.int .i64 a0_0, .int .i64 a0_1, .int .i64 a0_2, .string a0_3, .int .i64 a0_4, .int .i64 a0_5, .int .i64 a0_6, .int .i64 a0_7, .string a0_8, .slice A0_9 l0_9.length c0_9] 31 (0, 0)) (zB BK133.out) hb); have n1_ := Aside0.mk (below_step zz2 hb); clear BK133; clear HB; have BK133 := n0_; have HB := n1_; clear n0_ n1_; (try clear hb); (try clear hb2); (try clear hk); (try clear hi)))
              go_ret
              exact ⟨zz26, zz2⟩
          · rw [if_neg c106] at H
            have c106b0 : (a0_0 == 5) = false := beq_eq_false_iff_ne.mpr c106
            have c106b1 : (a0_0 != 5) = true := bne_iff_ne.mpr c106
            by_cases c120 : a0_0 = 6
            · rw [if_pos c120] at H
              have c120b0 : (a0_0 == 6) = true := beq_iff_eq.mpr c120
              have c120b1 : (a0_0 != 6) = false := bne_eq_false_iff_eq.mpr c120
              clear c120
              replace H := Option.bind_eq_some_iff.mp H
              obtain ⟨t154, A1210, H⟩ := H
              replace H : (if t154 = true then ((tree_op.f k a0_8).bind fun t155 => (some t155)) else (some false)) = some r := H
              have A121 := Aside0.mk A1210
              clear A1210
              by_cases c122 : t154 = true
              · subst c122
                have H1 : ((tree_op.f k a0_8).bind fun t155 => (some t155)) = some r := by rw [if_pos rfl] at H; exact H
                clear H
                have H := H1
                clear H1
                replace H := Option.bind_eq_some_iff.mp H
                obtain ⟨t155, A1230, H⟩ := H
                replace H : (some t155) = some r := H
                have A123 := Aside0.mk A1230
                clear A1230
                obtain rfl := Option.some.inj H
                go_enter Tryz.func43, Tryz.ntmps43
                go_wp2_with (first | ((with_reducible refine gate_dst (N := 1) rfl ?_); (try (refine gate_guard (by rfl) ?_; dsimp only)); refine box_event ?hg (N := 1) ?hd (cs := #[.int .i64 a0_0, .int .i64 a0_1, .int .i64 a0_2, .string a0_3, .int .i64 a0_4, .int .i64 a0_5, .int .i64 a0_6, .int .i64 a0_7, .string a0_8, .slice A0_9 l0_9.length c0_9]) (t := 31) ?hr ?_; (case hd => rfl); (case hg => rfl); (case hr => first | (go_simp; done) | (go_simp; rfl)); intro gb133 hg w124 hbox hb; have n0_ := Aside0.mk (below_step zz1 hb); have n1_ := Aside0.mk (hbox); have n2_ := Aside0.mk ((by rw [hg]; exact (below_size zz1) : w.heap.size ≤ gb133)); have n3_ := n2_; clear HB; have HB := n0_; have BK133 := n1_; have GW133 := n2_; have GE133 := n3_; clear n0_ n1_ n2_ n3_; clear hb hbox hg; obtain ⟨_, _, _, _, _, _, _, _, _, _, _, _, _, _, _, _, _, _, _, _⟩ := zC10 BK133.out) | ((with_reducible refine gate_callee (f := 63) rfl ?_); refine goesL_ (some 83) rfl rfl Tryz.func63 (by kernel_rfl) rfl #[.agg #[.int .i64 a0_0, .int .i64 a0_1, .int .i64 a0_2, .string a0_3, .int .i64 a0_4, .int .i64 a0_5, .int .i64 a0_6, .int .i64 a0_7, .string a0_8, .slice A0_9 l0_9.length c0_9], .bool false, .bool false, .bool true, .int .i64 0, .int .i64 10] rfl zz25 ?_; (with_reducible refine (tree_fields.calls a0_0 a0_1 a0_2 a0_3 a0_4 a0_5 a0_6 a0_7 a0_8 _ _ l0_9 false false true 0 10 true _ ?side1 ?side2 A121.out).mono ?_); (case side1 => repeat (first | exact (Kd.C_below HR0_9.out HB.out) | (with_reducible refine Kd.C_alloc ?_ _) | (with_reducible refine Kd.C_drewN ?_ _) | (with_reducible refine Kd.C_drew ?_))); (case side2 => exact HC0_9.out); rintro e w126 ⟨rfl, hb⟩; refine ⟨_, rfl, ?_⟩; have n0_ := Aside0.mk (blk_below (g := gb133) (o := .cells #[.int .i64 a0_0, .int .i64 a0_1, .int .i64 a0_2, .string a0_3, .int .i64 a0_4, .int .i64 a0_5, .int .i64 a0_6, .int .i64 a0_7, .string a0_8, .slice A0_9 l0_9.length c0_9] 31 (0, 0)) (zB BK133.out) hb); have n1_ := Aside0.mk (below_step zz2 hb); clear BK133; clear HB; have BK133 := n0_; have HB := n1_; clear n0_ n1_; (try clear hb); (try clear hb2); (try clear hk); (try clear hi); obtain ⟨_, _, _, _, _, _, _, _, _, _, _, _, _, _, _, _, _, _, _, _⟩ := zC10 BK133.out) | (go_at_call 66; (with_reducible refine (tree_op.calls k a0_8 t155 _ A123.out).mono ?_); rintro e w' ⟨rfl, ⟨nd, rfl⟩⟩))
                go_ret
                exact ⟨zz26, zz2⟩
              · replace c122 := Bool.eq_false_iff.mpr c122
                subst c122
                have H1 : (some false) = some r := by rw [if_neg (show ¬ (false = true) by decide)] at H; exact H
                clear H
                have H := H1
                clear H1
                obtain rfl := Option.some.inj H
                go_enter Tryz.func43, Tryz.ntmps43
                go_wp2_with (first | ((with_reducible refine gate_dst (N := 1) rfl ?_); (try (refine gate_guard (by rfl) ?_; dsimp only)); refine box_event ?hg (N := 1) ?hd (cs := #[.int .i64 a0_0, .int .i64 a0_1, .int .i64 a0_2, .string a0_3, .int .i64 a0_4, .int .i64 a0_5, .int .i64 a0_6, .int .i64 a0_7, .string a0_8, .slice A0_9 l0_9.length c0_9]) (t := 31) ?hr ?_; (case hd => rfl); (case hg => rfl); (case hr => first | (go_simp; done) | (go_simp; rfl)); intro gb133 hg w128 hbox hb; have n0_ := Aside0.mk (below_step zz1 hb); have n1_ := Aside0.mk (hbox); have n2_ := Aside0.mk ((by rw [hg]; exact (below_size zz1) : w.heap.size ≤ gb133)); have n3_ := n2_; clear HB; have HB := n0_; have BK133 := n1_; have GW133 := n2_; have GE133 := n3_; clear n0_ n1_ n2_ n3_; clear hb hbox hg; obtain ⟨_, _, _, _, _, _, _, _, _, _, _, _, _, _, _, _, _, _, _, _⟩ := zC10 BK133.out) | ((with_reducible refine gate_callee (f := 63) rfl ?_); refine goesL_ (some 83) rfl rfl Tryz.func63 (by kernel_rfl) rfl #[.agg #[.int .i64 a0_0, .int .i64 a0_1, .int .i64 a0_2, .string a0_3, .int .i64 a0_4, .int .i64 a0_5, .int .i64 a0_6, .int .i64 a0_7, .string a0_8, .slice A0_9 l0_9.length c0_9], .bool false, .bool false, .bool true, .int .i64 0, .int .i64 10] rfl zz25 ?_; (with_reducible refine (tree_fields.calls a0_0 a0_1 a0_2 a0_3 a0_4 a0_5 a0_6 a0_7 a0_8 _ _ l0_9 false false true 0 10 false _ ?side1 ?side2 A121.out).mono ?_); (case side1 => repeat (first | exact (Kd.C_below HR0_9.out HB.out) | (with_reducible refine Kd.C_alloc ?_ _) | (with_reducible refine Kd.C_drewN ?_ _) | (with_reducible refine Kd.C_drew ?_))); (case side2 => exact HC0_9.out); rintro e w130 ⟨rfl, hb⟩; refine ⟨_, rfl, ?_⟩; have n0_ := Aside0.mk (blk_below (g := gb133) (o := .cells #[.int .i64 a0_0, .int .i64 a0_1, .int .i64 a0_2, .string a0_3, .int .i64 a0_4, .int .i64 a0_5, .int .i64 a0_6, .int .i64 a0_7, .string a0_8, .slice A0_9 l0_9.length c0_9] 31 (0, 0)) (zB BK133.out) hb); have n1_ := Aside0.mk (below_step zz2 hb); clear BK133; clear HB; have BK133 := n0_; have HB := n1_; clear n0_ n1_; (try clear hb); (try clear hb2); (try clear hk); (try clear hi)))
                go_ret
                exact ⟨zz26, zz2⟩
            · rw [if_neg c120] at H
              have c120b0 : (a0_0 == 6) = false := beq_eq_false_iff_ne.mpr c120
              have c120b1 : (a0_0 != 6) = true := bne_iff_ne.mpr c120
              obtain rfl := Option.some.inj H
              go_enter Tryz.func43, Tryz.ntmps43
              go_wp2_with (first | ((with_reducible refine gate_dst (N := 1) rfl ?_); (try (refine gate_guard (by rfl) ?_; dsimp only)); refine box_event ?hg (N := 1) ?hd (cs := #[.int .i64 a0_0, .int .i64 a0_1, .int .i64 a0_2, .string a0_3, .int .i64 a0_4, .int .i64 a0_5, .int .i64 a0_6, .int .i64 a0_7, .string a0_8, .slice A0_9 l0_9.length c0_9]) (t := 31) ?hr ?_; (case hd => rfl); (case hg => rfl); (case hr => first | (go_simp; done) | (go_simp; rfl)); intro gb133 hg w131 hbox hb; have n0_ := Aside0.mk (below_step zz1 hb); have n1_ := Aside0.mk (hbox); have n2_ := Aside0.mk ((by rw [hg]; exact (below_size zz1) : w.heap.size ≤ gb133)); have n3_ := n2_; clear HB; have HB := n0_; have BK133 := n1_; have GW133 := n2_; have GE133 := n3_; clear n0_ n1_ n2_ n3_; clear hb hbox hg; obtain ⟨_, _, _, _, _, _, _, _, _, _, _, _, _, _, _, _, _, _, _, _⟩ := zC10 BK133.out))
              go_ret
              exact ⟨zz26, zz2⟩
end Go.Proofs.YtnomfbmebafolaaGreatDoor.P

namespace Go.Proofs.YtnomfbmebafolaaGreatDoor.P
open Go.RowKit Go.Proofs.YtnomfbmebafolaaGreatDoorW.PrintWords Go.Proofs.YtnomfbmebafolaaGreatDoorW.PrintLast Go.Proofs.YtnomfbmebafolaaGreatDoorW.PrintMore
open M (I64)
set_option linter.unusedVariables false
set_option linter.unusedSimpArgs false
theorem Below.of_alloc {a c : World} {o : Obj} (h : Below (a.alloc o).heap.size (a.alloc o) c) : Below a.heap.size a c :=
  ⟨h.os, h.tape, h.output, Nat.le_trans (by simp) h.size, fun i hi => (h.block i (by simp; omega)).trans (blk_alloc_old _ _ hi)⟩
def oneO (k : Nat) (t : TN) : Option Bool := tree_one.f k t.f0 t.f1.f0 t.f1.f1 t.f1.f2 t.f2.f0.f0 t.f2.f0.f1 t.f2.f1.f0 t.f2.f1.f1 t.f3 t.f4
def allL (f : TN → Option Bool) : List TN → Option Bool
  | [] => some true
  | a :: l => match f a with | none => none | some false => some false | some true => allL f l
def allF : Nat → TN → Option Bool
  | 0, _ => none
  | k + 1, t => match oneO (k + 1) t with | none => none | some false => some false | some true => allL (allF k) t.f4
def AllC (k : Nat) : Prop := ∀ (t : TN) (A : Option Addr) (c : Nat) (W : World) (r : Bool), Kd.C k31 W A t.f4.length t.f4 → t.f4.length ≤ c → allF k t = some r →
  Calls Tryz.prog 25 #[ndV t (.slice A t.f4.length c)] W fun e W' => e = .returned (.bool r) ∧ Below W.heap.size W W'
theorem AllC.go {k : Nat} (h : AllC k) (t : TN) (A : Option Addr) (c : Nat) (W : World) (r : Bool) (h1 : Kd.C k31 W A t.f4.length t.f4) (h2 : t.f4.length ≤ c) (h3 : allF k t = some r) : Calls Tryz.prog 25 #[ndV t (.slice A t.f4.length c)] W fun e W' => e = .returned (.bool r) ∧ Below W.heap.size W W' := h t A c W r h1 h2 h3
set_option maxHeartbeats 1000000 in
set_option maxRecDepth 100000 in
theorem not_all {k : Nat} (h : AllC k) (t : TN) (A : Option Addr) (c : Nat) (W : World) (r : Bool) (h1 : Kd.C k31 W A t.f4.length t.f4) (h2 : t.f4.length ≤ c) (h3 : allF k t = some r) :
    Calls Tryz.prog 45 #[ndV t (.slice A t.f4.length c)] W fun e W' => e = .returned (.bool (!r)) ∧ Below W.heap.size W W' := by
  have HC := Lib.hid h1
  have H2 := Lib.hid h2
  have H3 := Lib.hid h3
  have H := Lib.hid h
  clear h1 h2 h3 h
  go_enter Tryz.func45, Tryz.ntmps45
  go_wp2_with (first | (go_at_call 25; (with_reducible refine (H.out.go t A c _ r ?sc H2.out H3.out).mono ?_); (case sc => exact Kd.C_alloc HC.out _); rintro e w2 ⟨rfl, hb⟩; have HB := Lib.hid (Below.of_alloc hb); clear hb))
  go_ret
  exact ⟨by cases r <;> rfl, HB.out⟩
def IdxPost (r : Bool) (e : Ending) : Prop := ∃ i : Int, e = .returned (.int .i64 i) ∧ decide (0 ≤ i) = !r
def IdxS (k : Nat) (l : List TN) (W : World) (r : Bool) (i : Value) (wr : World) : Prop :=
  ∃ j : Nat, i = .int .i64 (j : Int) ∧ j ≤ l.length ∧ allL (allF k) (l.drop j) = some r ∧ Below W.heap.size W wr
set_option maxHeartbeats 1000000 in
set_option maxRecDepth 100000 in
theorem index_calls {k : Nat} (h : AllC k) (l : List TN) (A : Option Addr) (c : Nat) (W : World) (r : Bool) (h1 : Kd.C k31 W A l.length l) (h2 : l.length ≤ c) (h3 : allL (allF k) l = some r) :
    Calls Tryz.prog 67 #[.slice A l.length c, .func (.func 45) #[] #[]] W fun e W' => IdxPost r e ∧ Below W.heap.size W W' := by
  have HC := Lib.hid h1
  have H3 := Lib.hid h3
  have H := Lib.hid h
  have hlen := h1.2.1
  clear h1 h2 h3 h
  go_enter Tryz.func67, Tryz.ntmps67
  go_wp2
  go_loopw [8] (IdxS k l W r) (fun i _ => l.length - (intOf i).toNat)
  case atStart => exact ⟨0, rfl, Nat.zero_le _, H3.out, Below.refl _ _⟩
  case round =>
    obtain ⟨j, rfl, hj, hF, hb⟩ := hrel
    have HB := Lib.hid hb
    have HCr := Lib.hid (Kd.C_below HC.out hb)
    clear H3 hb
    by_cases hlt : j < l.length
    · obtain ⟨x, hx⟩ : ∃ x, l[j]? = some x := ⟨_, List.getElem?_eq_getElem hlt⟩
      have hd : l.drop j = x :: l.drop (j + 1) := by
        obtain ⟨g1, g2⟩ := List.getElem?_eq_some_iff.1 hx
        rw [List.drop_eq_getElem_cons g1, g2]
      obtain ⟨ad, A9, c9, rfl, e0, e1, e2, e3, e4, e5, e6, e7, e8, e9, hl9, hi9⟩ := at_T31 HCr.out (j : Int) (by omega) (by omega)
      have hr : rd_T31 l (j : Int) = x := by
        obtain ⟨g1, g2⟩ := List.getElem?_eq_some_iff.1 hx
        unfold rd_T31; simp [List.getD_eq_getElem?_getD, hx]
      rw [hr, show ((j : Int)).toNat = j by omega] at e0 e1 e2 e3 e4 e5 e6 e7 e8 e9
      rw [hr] at hl9 hi9
      rw [hd, allL] at hF
      have hq1 : ((0 : Int) ≤ (j : Int)) = True := eq_true (by omega)
      have hq2 : ((j : Int) < (l.length : Int)) = True := eq_true (by omega)
      have hq3 : decide ((j : Int) < (l.length : Int)) = true := decide_eq_true (by omega)
      have HI9 := Lib.hid hi9
      have HL9 := Lib.hid hl9
      cases hf : allF k x with
      | none => rw [hf] at hF; cases hF
      | some r1 =>
        rw [hf] at hF
        have HF := Lib.hid hf
        have HHF := Lib.hid hF
        clear hf hF hr hx hd hl9 hi9
        cases r1 with
        | false =>
          go_wp2_with (first | (go_at_call 45; (with_reducible refine (not_all H.out x A9 c9 _ false HI9.out HL9.out HF.out).mono ?_); rintro e w2 ⟨rfl, hb2⟩; have HB2 := Lib.hid (Below.on HB.out hb2); clear hb2))
          have hh := HHF.out
          simp only [Option.some.injEq] at hh
          subst hh
          go_ret
          exact ⟨⟨j, rfl, decide_eq_true (by omega)⟩, HB2.out⟩
        | true =>
          go_wp2_with (first | (go_at_call 45; (with_reducible refine (not_all H.out x A9 c9 _ true HI9.out HL9.out HF.out).mono ?_); rintro e w2 ⟨rfl, hb2⟩; have HB2 := Lib.hid (Below.on HB.out hb2); clear hb2))
          go_roundw
          case rel => exact ⟨j + 1, by go_num, by omega, HHF.out, HB2.out⟩
          case measure => simp [intOf]; omega
    · have hjl : j = l.length := by omega
      subst hjl
      rw [List.drop_length, allL] at hF
      have hq3 : decide ((l.length : Int) < (l.length : Int)) = false := decide_eq_false (by omega)
      have HHF := Lib.hid hF
      clear hF
      go_wp2
      have hh := HHF.out
      simp only [Option.some.injEq] at hh
      subst hh
      go_ret
      exact ⟨⟨-1, rfl, rfl⟩, HB.out⟩
set_option maxHeartbeats 1000000 in
set_option maxRecDepth 100000 in
theorem contains_calls {k : Nat} (h : AllC k) (l : List TN) (A : Option Addr) (c : Nat) (W : World) (r : Bool) (h1 : Kd.C k31 W A l.length l) (h2 : l.length ≤ c) (h3 : allL (allF k) l = some r) :
    Calls Tryz.prog 44 #[.slice A l.length c, .func (.func 45) #[] #[]] W fun e W' => e = .returned (.bool (!r)) ∧ Below W.heap.size W W' := by
  have HC := Lib.hid h1
  have H2 := Lib.hid h2
  have H3 := Lib.hid h3
  have H := Lib.hid h
  clear h1 h2 h3 h
  go_enter Tryz.func44, Tryz.ntmps44
  go_wp2_with (first | (go_at_call 67; (with_reducible refine (index_calls H.out l A c _ r HC.out H2.out H3.out).mono ?_); rintro e w2 ⟨⟨i, rfl, hi⟩, hb⟩; have HI := Lib.hid hi; have HB := Lib.hid hb; clear hi hb))
  go_ret
  exact ⟨by rw [← HI.out]; rfl, HB.out⟩
set_option maxHeartbeats 1000000 in
set_option maxRecDepth 100000 in
theorem all_all : ∀ k, AllC k := by
  intro k
  induction k with
  | zero => intro t A c W r h1 h2 h3; cases h3
  | succ k ih =>
    intro t A c W r h1 h2 h3
    unfold allF at h3
    have HC := Lib.hid h1
    have H2 := Lib.hid h2
    have HI := Lib.hid ih
    clear h1 h2 ih
    cases h4 : oneO (k + 1) t with
    | none => rw [h4] at h3; cases h3
    | some r1 =>
      rw [h4] at h3
      unfold oneO at h4
      have H4 := Lib.hid h4
      have H3 := Lib.hid h3
      clear h3 h4
      cases r1 with
      | false =>
        have hh := H3.out
        simp only [Option.some.injEq] at hh
        subst hh
        go_enter Tryz.func25, Tryz.ntmps25
        go_wp2_with (first | (go_at_call 43; (with_reducible refine (tree_one.calls (k + 1) t.f0 t.f1.f0 t.f1.f1 t.f1.f2 t.f2.f0.f0 t.f2.f0.f1 t.f2.f1.f0 t.f2.f1.f1 t.f3 A c t.f4 false _ ?sc H2.out H4.out).mono ?_); (case sc => exact Kd.C_alloc HC.out _); rintro e w2 ⟨rfl, hb⟩; have HB := Lib.hid (Below.of_alloc hb); clear hb))
        go_ret
        exact ⟨rfl, HB.out⟩
      | true =>
        go_enter Tryz.func25, Tryz.ntmps25
        go_wp2_with (first | (go_at_call 43; (with_reducible refine (tree_one.calls (k + 1) t.f0 t.f1.f0 t.f1.f1 t.f1.f2 t.f2.f0.f0 t.f2.f0.f1 t.f2.f1.f0 t.f2.f1.f1 t.f3 A c t.f4 true _ ?sc H2.out H4.out).mono ?_); (case sc => exact Kd.C_alloc HC.out _); rintro e w2 ⟨rfl, hb⟩; have HB := Lib.hid (Below.of_alloc hb); have HC2 := Lib.hid (Kd.C_below (Kd.C_alloc HC.out _) hb); have e9 := (blk_cell (blk_below (blk_new W (ndO t (.slice A t.f4.length c))) hb) 9).trans rfl; clear hb) | (go_at_call 44; (with_reducible refine (contains_calls HI.out t.f4 A c _ r HC2.out H2.out H3.out).mono ?_); rintro e w3 ⟨rfl, hb⟩; have HB3 := Lib.hid (Below.on HB.out hb); clear hb))
        go_ret
        exact ⟨by cases r <;> rfl, HB3.out⟩
end Go.Proofs.YtnomfbmebafolaaGreatDoor.P

namespace Go.Proofs.YtnomfbmebafolaaGreatDoor.P
open Go.RowKit Go.Proofs.YtnomfbmebafolaaGreatDoorW.PrintWords Go.Proofs.YtnomfbmebafolaaGreatDoorW.PrintLast Go.Proofs.YtnomfbmebafolaaGreatDoorW.PrintMore
open M (I64)
set_option linter.unusedVariables false
set_option linter.unusedSimpArgs false
def tree_small.f (a0_0 a0_1 a0_2 : Int) (a0_3 : ByteArray) (a0_4 a0_5 a0_6 a0_7 : Int) (a0_8 : ByteArray) (l0_9 : List S31) : Option Bool := some (smallB ⟨a0_0, ⟨a0_1, a0_2, a0_3⟩, ⟨⟨a0_4, a0_5⟩, ⟨a0_6, a0_7⟩⟩, a0_8, l0_9⟩)
theorem tree_small.calls (a0_0 a0_1 a0_2 : Int) (a0_3 : ByteArray) (a0_4 a0_5 a0_6 a0_7 : Int) (a0_8 : ByteArray) (A0_9 : Option Addr) (c0_9 : Nat) (l0_9 : List S31) (r : Bool) (w : World) (hr0_9 : Kd.C k31 w A0_9 l0_9.length l0_9) (hc0_9 : l0_9.length ≤ c0_9) (h : tree_small.f a0_0 a0_1 a0_2 a0_3 a0_4 a0_5 a0_6 a0_7 a0_8 l0_9 = some r) :
    Calls Tryz.prog 24 #[.agg #[.int .i64 a0_0, .int .i64 a0_1, .int .i64 a0_2, .string a0_3, .int .i64 a0_4, .int .i64 a0_5, .int .i64 a0_6, .int .i64 a0_7, .string a0_8, .slice A0_9 l0_9.length c0_9]] w fun e w' => e = .returned (.bool r) ∧ Below w.heap.size w w' := by
  obtain rfl := Option.some.inj h
  exact small_calls ⟨a0_0, ⟨a0_1, a0_2, a0_3⟩, ⟨⟨a0_4, a0_5⟩, ⟨a0_6, a0_7⟩⟩, a0_8, l0_9⟩ A0_9 c0_9 w hr0_9 hc0_9
def tree_all.f (k : Nat) (a0_0 a0_1 a0_2 : Int) (a0_3 : ByteArray) (a0_4 a0_5 a0_6 a0_7 : Int) (a0_8 : ByteArray) (l0_9 : List S31) : Option Bool := allF k ⟨a0_0, ⟨a0_1, a0_2, a0_3⟩, ⟨⟨a0_4, a0_5⟩, ⟨a0_6, a0_7⟩⟩, a0_8, l0_9⟩
theorem tree_all.calls (k : Nat) (a0_0 a0_1 a0_2 : Int) (a0_3 : ByteArray) (a0_4 a0_5 a0_6 a0_7 : Int) (a0_8 : ByteArray) (A0_9 : Option Addr) (c0_9 : Nat) (l0_9 : List S31) (r : Bool) (w : World) (hr0_9 : Kd.C k31 w A0_9 l0_9.length l0_9) (hc0_9 : l0_9.length ≤ c0_9) (h : tree_all.f k a0_0 a0_1 a0_2 a0_3 a0_4 a0_5 a0_6 a0_7 a0_8 l0_9 = some r) :
    Calls Tryz.prog 25 #[.agg #[.int .i64 a0_0, .int .i64 a0_1, .int .i64 a0_2, .string a0_3, .int .i64 a0_4, .int .i64 a0_5, .int .i64 a0_6, .int .i64 a0_7, .string a0_8, .slice A0_9 l0_9.length c0_9]] w fun e w' => e = .returned (.bool r) ∧ Below w.heap.size w w' :=
  all_all k ⟨a0_0, ⟨a0_1, a0_2, a0_3⟩, ⟨⟨a0_4, a0_5⟩, ⟨a0_6, a0_7⟩⟩, a0_8, l0_9⟩ A0_9 c0_9 w r hr0_9 hc0_9 h
theorem allL_mono {f g : TN → Option Bool} (h : ∀ t r, f t = some r → g t = some r) : ∀ l r, allL f l = some r → allL g l = some r := by
  intro l
  induction l with
  | nil => intro r h; exact h
  | cons a l ih =>
    intro r hr
    unfold allL at hr ⊢
    cases e : f a with
    | none => rw [e] at hr; cases hr
    | some b =>
      rw [h a b e]
      rw [e] at hr
      cases b with
      | false => exact hr
      | true => exact ih r hr
theorem allF_mono : ∀ k t r, allF k t = some r → allF (k + 1) t = some r := by
  intro k
  induction k with
  | zero => intro t r h; cases h
  | succ k ih =>
    intro t r h
    rw [allF] at h ⊢
    cases e : oneO (k + 1) t with
    | none => rw [e] at h; cases h
    | some b =>
      have e2 : oneO (k + 1 + 1) t = some b := tree_one.mono _ _ _ _ _ _ _ _ _ _ _ _ e
      rw [e] at h
      rw [e2]
      cases b with
      | false => exact h
      | true => exact allL_mono ih _ _ h
abbrev NodeR := Int × Int × Int × ByteArray × Int × Int × Int × Int × ByteArray × (List S31) × Int × Int
def nodeR (t : TN) (p c : Int) : NodeR := (t.f0, t.f1.f0, t.f1.f1, t.f1.f2, t.f2.f0.f0, t.f2.f0.f1, t.f2.f1.f0, t.f2.f1.f1, t.f3, t.f4, p, c)
def badR (p c : Int) : NodeR := (0, 0, 0, ⟨#[]⟩, 0, 0, 0, 0, ⟨#[]⟩, [], p, c)
def depO (k : Nat) (t : TN) : Option Int := tree_depth.f k t.f0 t.f1.f0 t.f1.f1 t.f1.f2 t.f2.f0.f0 t.f2.f0.f1 t.f2.f1.f0 t.f2.f1.f1 t.f3 t.f4
def tokR (k : Nat) (toks : List Tok) (en : Int) : Option NodeR :=
  match (lv toks en 41).form 0 with
  | (.bad p c, _) => some (badR p c)
  | (.ok t, n) => if n < toks.length then some (badR (placeV toks en n) 13) else match depO k t with | none => none | some d => if 16 < d then some (badR 0 14) else some (nodeR t 0 0)
def tree_Parse.f (k : Nat) (s : ByteArray) : Option NodeR :=
  if s.size ≤ 1000000 then (match lex_Cut.f k s with
  | none => none
  | some (toks, p, c) => if c ≠ 0 then some (badR p c) else if toks.length ≤ 1000000 ∧ (toks.all fun t => decide (t.f2.size ≤ 1000000)) = true then tokR k toks (s.size : Int) else none) else none
theorem tree_Parse.calls (k : Nat) (a0 : ByteArray) (r1 r2 r3 : Int) (r4 : ByteArray) (r5 r6 r7 r8 : Int) (r9 : ByteArray) (r10 : List S31) (r11 r12 : Int) (w : World) (hG : G4 w) (h : tree_Parse.f k a0 = some (r1, r2, r3, r4, r5, r6, r7, r8, r9, r10, r11, r12)) :
    Calls Tryz.prog 14 #[.string a0] w fun e w' => ∃ v9_ : Value, e = .returned (.tuple #[.agg #[.int .i64 r1, .int .i64 r2, .int .i64 r3, .string r4, .int .i64 r5, .int .i64 r6, .int .i64 r7, .int .i64 r8, .string r9, v9_], .int .i64 r11, .int .i64 r12]) ∧ Kd.V k31 31 w' w.heap.size (fun k_ => (w.heap.size ≤ k_)) v9_ r10 ∧ Below w.heap.size w w' := by
  have bad : ∀ p c, ParsedBad a0 p c → badR p c = (r1, r2, r3, r4, r5, r6, r7, r8, r9, r10, r11, r12) → Calls Tryz.prog 14 #[.string a0] w fun e w' => ∃ v9_ : Value, e = .returned (.tuple #[.agg #[.int .i64 r1, .int .i64 r2, .int .i64 r3, .string r4, .int .i64 r5, .int .i64 r6, .int .i64 r7, .int .i64 r8, .string r9, v9_], .int .i64 r11, .int .i64 r12]) ∧ Kd.V k31 31 w' w.heap.size (fun k_ => (w.heap.size ≤ k_)) v9_ r10 ∧ Below w.heap.size w w' := by
    intro p c hp e
    cases e
    refine (treeParse_bad a0 _ _ hp w hG).mono ?_
    rintro e w' ⟨rfl, hb⟩
    exact ⟨.slice none 0 0, rfl, Kd.V_nil _ _ _ _ _, hb⟩
  unfold tree_Parse.f at h
  by_cases hs : a0.size ≤ 1000000
  · rw [if_pos hs] at h
    cases hc : lex_Cut.f k a0 with
    | none => rw [hc] at h; cases h
    | some x =>
      obtain ⟨toks, p, c⟩ := x
      rw [hc] at h
      dsimp only at h
      by_cases h0 : c ≠ 0
      · rw [if_pos h0] at h
        exact bad p c (parsed_cut a0 hs toks k p c hc h0) (Option.some.inj h)
      · rw [if_neg h0] at h
        have hc0 : c = 0 := by omega
        subst hc0
        by_cases hl : toks.length ≤ 1000000 ∧ (toks.all fun t => decide (t.f2.size ≤ 1000000)) = true
        · rw [if_pos hl] at h
          have hsz : ∀ t ∈ toks, t.f2.size ≤ 1000000 := fun t ht => of_decide_eq_true (List.all_eq_true.1 hl.2 t ht)
          have hf := formula_does (en := (a0.size : Int)) hl.1 hsz
          unfold tokR at h
          cases e : (lv toks (a0.size : Int) 41).form 0 with
          | mk r n =>
            rw [e] at h hf
            cases r with
            | bad p' c' => exact bad p' c' (parsed_form a0 hs toks k p hc p' c' n hf) (Option.some.inj h)
            | ok t =>
              dsimp only at h
              by_cases hn : n < toks.length
              · rw [if_pos hn] at h
                exact bad _ _ (parsed_more a0 hs toks k p hc t n hf hn) (Option.some.inj h)
              · rw [if_neg hn] at h
                cases hd : depO k t with
                | none => rw [hd] at h; cases h
                | some d =>
                  rw [hd] at h
                  dsimp only at h
                  by_cases h16 : 16 < d
                  · rw [if_pos h16] at h
                    exact bad _ _ (parsed_deep a0 hs toks k p hc t n hf hn k d hd h16) (Option.some.inj h)
                  · rw [if_neg h16] at h
                    have hx := Option.some.inj h
                    have hok := parsed_ok a0 hs toks k p hc t n hf hn k d hd h16
                    cases hx
                    refine (treeParse_ok a0 t hok w hG).mono ?_
                    rintro e w' ⟨⟨v9, rfl, hv⟩, hb⟩
                    exact ⟨v9, rfl, hv, hb⟩
        · rw [if_neg hl] at h; cases h
  · rw [if_neg hs] at h; cases h
end Go.Proofs.YtnomfbmebafolaaGreatDoor.P

namespace Go.Proofs.YtnomfbmebafolaaGreatDoor.P
open Go.RowKit Go.Extern.Stop Go.Stop Go.Extern
set_option linter.unusedVariables false
set_option linter.unusedSimpArgs false
theorem eb_nil (t : Value) (w : World) :
    Calls Tryz.prog 33 #[.nilIface, t] w fun e w' => e = .returned (.bool false) ∧ w' = w := by
  go_enter Tryz.func33, Tryz.ntmps33
  go_wp2
  go_ret
  exact ⟨rfl, rfl⟩
theorem eb_valueOf27 (t : Addr) (w : World) : (ReflectliteValue.unpack (.iface 91 (.pointer (some t)))).run Tryz.prog w
    = .ok (.agg #[.pointer (some ⟨10, 91, none⟩), .pointer (some ⟨w.heap.size, 0, none⟩), .int .u64 150]) (w.alloc (.cells #[.pointer (some t)] 91)) := by kernel_rfl
theorem eb_type27 (a : Addr) (w : World) : (ReflectliteValue.methodAny (ReflectliteValue.valueError "reflectlite.Value.Type" 0) (fun t _ _ _ => ReflectliteType.toType t) #[.agg #[.pointer (some ⟨10, 91, none⟩), .pointer (some a), .int .u64 150]]).run Tryz.prog w
    = .ok (.iface 145 (.agg #[.pointer (some ⟨10, 91, none⟩)])) w := by kernel_rfl
theorem eb_methodKind (h : Value) (w : World) : (Go.method 342 145 (.agg #[h]) "Kind").run Tryz.prog w = .ok (155, h) w := by kernel_rfl
theorem eb_kind27 (w : World) : ((ReflectliteType.abiMethod fun t => (fun a : Nat => Value.int IntKind.u8 (a : Int)) <$> Rtype.kind t) #[.pointer (some ⟨10, 91, none⟩)]).run Tryz.prog w = .ok (.int .u8 22) w := by kernel_rfl
theorem eb_kind25 (w : World) : ((ReflectliteType.abiMethod fun t => (fun a : Nat => Value.int IntKind.u8 (a : Int)) <$> Rtype.kind t) #[.pointer (some ⟨10, 90, none⟩)]).run Tryz.prog w = .ok (.int .u8 22) w := by kernel_rfl
theorem eb_rlm (z : Sem Value) (f : TypeId → Addr → Nat → Nat → Sem Value) (v : Value) :
    ReflectliteValue.method z f #[v] = (do match ← ReflectliteValue.parts v with | none => z | some (t, a, fl) => f t a fl (fl % 32)) := rfl
theorem eb_parts27 (a : Addr) (w : World) : (ReflectliteValue.parts (.agg #[.pointer (some ⟨10, 91, none⟩), .pointer (some a), .int .u64 150])).run Tryz.prog w = .ok (some (91, a, 150)) w := by kernel_rfl
theorem eb_isNil27 (a p : Addr) (W : World) (ha : W.cell? a = some (.pointer (some p))) :
    (ReflectliteValue.method (ReflectliteValue.valueError "reflectlite.Value.IsNil" 0) ReflectliteValue.isNil #[.agg #[.pointer (some ⟨10, 91, none⟩), .pointer (some a), .int .u64 150]]).run Tryz.prog W = .ok (.bool false) W := by
  rw [eb_rlm]
  simp only [Sem.run_bind, eb_parts27, Result.andThen]
  simp [ReflectliteValue.isNil, loadVar, isAgg, underlying, Tryz.underlying91, ha, Result.andThen]
theorem eb_methodElem (h : Value) (w : World) : (Go.method 342 145 (.agg #[h]) "Elem").run Tryz.prog w = .ok (169, .agg #[h]) w := by kernel_rfl
theorem eb_methodImplements (h : Value) (w : World) : (Go.method 342 145 (.agg #[h]) "Implements").run Tryz.prog w = .ok (170, .agg #[h]) w := by kernel_rfl
theorem eb_methodAssignableTo (h : Value) (w : World) : (Go.method 342 145 (.agg #[h]) "AssignableTo").run Tryz.prog w = .ok (167, .agg #[h]) w := by kernel_rfl
theorem eb_elem27 (w : World) : (ReflectliteType.method ReflectliteType.elem #[.agg #[.pointer (some ⟨10, 91, none⟩)]]).run Tryz.prog w = .ok (.iface 145 (.agg #[.pointer (some ⟨10, 90, none⟩)])) w := by kernel_rfl
theorem eb_implements25 (w : World) : (ReflectliteType.relation "Implements" ReflectliteType.implements_ #[.agg #[.pointer (some ⟨10, 90, none⟩)], .iface 145 (.agg #[.pointer (some ⟨10, 64, none⟩)])]).run Tryz.prog w = .ok (.bool true) w := by kernel_rfl
theorem eb_typeOf25 (v : Value) (w : World) : (ReflectliteType.typeOf #[.iface 90 v]).run Tryz.prog w = .ok (.iface 145 (.agg #[.pointer (some ⟨10, 90, none⟩)])) w := by kernel_rfl
theorem eb_assignable25 (w : World) : (ReflectliteType.relation "AssignableTo" ReflectliteType.assignableTo #[.agg #[.pointer (some ⟨10, 90, none⟩)], .iface 145 (.agg #[.pointer (some ⟨10, 90, none⟩)])]).run Tryz.prog w = .ok (.bool true) w := by kernel_rfl
theorem eb_valueOf25 (e : Addr) (w : World) : (ReflectliteValue.unpack (.iface 90 (.pointer (some e)))).run Tryz.prog w
    = .ok (.agg #[.pointer (some ⟨10, 90, none⟩), .pointer (some ⟨w.heap.size, 0, none⟩), .int .u64 150]) (w.alloc (.cells #[.pointer (some e)] 90)) := by kernel_rfl
theorem eb_elemOf27 (w : World) : (Rtype.elem? 91).run Tryz.prog w = .ok (some 90) w := by kernel_rfl
theorem eb_mk25 (p : Addr) (w : World) : (ReflectliteValue.mk 90 p ReflectliteValue.flagAddr).run Tryz.prog w = .ok (.agg #[.pointer (some ⟨10, 90, none⟩), .pointer (some p), .int .u64 406]) w := by kernel_rfl
theorem eb_elemV27 (a p : Addr) (W : World) (ha : W.cell? a = some (.pointer (some p))) :
    (ReflectliteValue.method (ReflectliteValue.valueError "reflectlite.Value.Elem" 0) ReflectliteValue.elem #[.agg #[.pointer (some ⟨10, 91, none⟩), .pointer (some a), .int .u64 150]]).run Tryz.prog W
      = .ok (.agg #[.pointer (some ⟨10, 90, none⟩), .pointer (some p), .int .u64 406]) W := by
  rw [eb_rlm]
  simp only [Sem.run_bind, eb_parts27, Result.andThen]
  simp [ReflectliteValue.elem, loadVar, isAgg, underlying, Tryz.underlying91, ha, Result.andThen, eb_elemOf27, eb_mk25]
theorem eb_rls (v x : Value) : ReflectliteValue.set #[v, x] = (do
    let (some (dst, a, fl), some (src, b, _)) := (← ReflectliteValue.parts v, ← ReflectliteValue.parts x)
      | unsupported (.noEntry "extern/(internal/reflectlite.Value).Set.zeroValue")
    if fl / ReflectliteValue.flagAddr % 2 == 0 then unsupported (.noEntry "extern/(internal/reflectlite.Value).Set.unaddressable")
    let val ← loadVar src b
    if ← Rtype.directlyAssignable dst src then storeVar dst a val
    else if ← Rtype.implements dst src then
      if (← Rtype.kind src) == 20 then
        match val with
        | .nilIface => unsupported (.noEntry "extern/reflectlite: a nil value of one interface type handed on as a value of another")
        | _ => storeVar dst a val
      else storeVar dst a (.iface src val)
    else panicString ("reflectlite.Set: value of type " ++ (← Rtype.spelt src) ++ " is not assignable to type " ++ (← Rtype.spelt dst))
    pure (.tuple #[])) := rfl
theorem eb_parts25a (a : Addr) (w : World) : (ReflectliteValue.parts (.agg #[.pointer (some ⟨10, 90, none⟩), .pointer (some a), .int .u64 406])).run Tryz.prog w = .ok (some (90, a, 406)) w := by kernel_rfl
theorem eb_parts25 (a : Addr) (w : World) : (ReflectliteValue.parts (.agg #[.pointer (some ⟨10, 90, none⟩), .pointer (some a), .int .u64 150])).run Tryz.prog w = .ok (some (90, a, 150)) w := by kernel_rfl
theorem eb_direct25 (w : World) : (Rtype.directlyAssignable 90 90).run Tryz.prog w = .ok true w := by kernel_rfl
theorem eb_set25 (ta b e : Addr) (old : Value) (W : World) (hb : W.cell? b = some (.pointer (some e))) (ht : W.cell? ta = some old) (hf : W.frozen? ta = false) :
    (ReflectliteValue.set #[.agg #[.pointer (some ⟨10, 90, none⟩), .pointer (some ta), .int .u64 406], .agg #[.pointer (some ⟨10, 90, none⟩), .pointer (some b), .int .u64 150]]).run Tryz.prog W
      = .ok (.tuple #[]) (W.setCell ta (.pointer (some e))) := by
  rw [eb_rls]
  simp only [Sem.run_bind, eb_parts25a, eb_parts25, Result.andThen]
  simp [ReflectliteValue.flagAddr, loadVar, isAgg, underlying, Tryz.underlying90, hb, Result.andThen, eb_direct25, storeVar, Value.cells, storeCells, Addr.add]
  rw [run_store Tryz.prog W ta _ _ (by rfl)]
  simp [ht, hf]
set_option maxHeartbeats 4000000 in
theorem eb_hit (e t : Addr) (old : Value) (w : World) (hg : w.cell? ⟨1, 0, none⟩ = some (.iface 145 (.agg #[.pointer (some ⟨10, 64, none⟩)]))) (ht0 : w.cell? t = some old) (hf0 : w.frozen? t = false) :
    Calls Tryz.prog 33 #[.iface 90 (.pointer (some e)), .iface 91 (.pointer (some t))] w fun ev w' => ev = .returned (.bool true) ∧ w' = ((((w.alloc (.cells #[.pointer (some t)] 91)).alloc (.cells #[.pointer (some ⟨10, 91, none⟩), .pointer (some ⟨w.heap.size, 0, none⟩), .int .u64 150] 112)).alloc (.cells #[.pointer (some ⟨10, 91, none⟩), .pointer (some ⟨w.heap.size, 0, none⟩), .int .u64 150] 112)).alloc (.cells #[.pointer (some e)] 90)).setCell t (.pointer (some e)) := by
  have h6 := @run_callFunc_extern Tryz.prog 53 _ (fun args => ReflectliteValue.unpack (args.getD 0 (.tuple #[]))) Tryz.func53 (by kernel_rfl) (by kernel_rfl) (by kernel_rfl) (by kernel_rfl)
  have h7 := @run_callFunc_extern Tryz.prog 54 _ (ReflectliteValue.methodAny (ReflectliteValue.valueError "reflectlite.Value.Type" 0) (fun t _ _ _ => ReflectliteType.toType t)) Tryz.func54 (by kernel_rfl) (by kernel_rfl) (by kernel_rfl) (by kernel_rfl)
  have h8 := @run_callFunc_extern Tryz.prog 55 _ (ReflectliteValue.method (ReflectliteValue.valueError "reflectlite.Value.IsNil" 0) ReflectliteValue.isNil) Tryz.func55 (by kernel_rfl) (by kernel_rfl) (by kernel_rfl) (by kernel_rfl)
  have h27 := @run_callFunc_extern Tryz.prog 155 _ (ReflectliteType.abiMethod fun t => do pure (.int .u8 (← Rtype.kind t))) Tryz.func155 (by kernel_rfl) (by kernel_rfl) (by kernel_rfl) (by kernel_rfl)
  have h37 := @run_callFunc_extern Tryz.prog 169 _ (ReflectliteType.method ReflectliteType.elem) Tryz.func169 (by kernel_rfl) (by kernel_rfl) (by kernel_rfl) (by kernel_rfl)
  have h38 := @run_callFunc_extern Tryz.prog 170 _ (ReflectliteType.relation "Implements" ReflectliteType.implements_) Tryz.func170 (by kernel_rfl) (by kernel_rfl) (by kernel_rfl) (by kernel_rfl)
  have h10 := @run_callFunc_extern Tryz.prog 61 _ ReflectliteType.typeOf Tryz.func61 (by kernel_rfl) (by kernel_rfl) (by kernel_rfl) (by kernel_rfl)
  have h35 := @run_callFunc_extern Tryz.prog 167 _ (ReflectliteType.relation "AssignableTo" ReflectliteType.assignableTo) Tryz.func167 (by kernel_rfl) (by kernel_rfl) (by kernel_rfl) (by kernel_rfl)
  have h11 := @run_callFunc_extern Tryz.prog 78 _ (ReflectliteValue.method (ReflectliteValue.valueError "reflectlite.Value.Elem" 0) ReflectliteValue.elem) Tryz.func78 (by kernel_rfl) (by kernel_rfl) (by kernel_rfl) (by kernel_rfl)
  have h12 := @run_callFunc_extern Tryz.prog 79 _ ReflectliteValue.set Tryz.func79 (by kernel_rfl) (by kernel_rfl) (by kernel_rfl) (by kernel_rfl)
  have tO := eb_typeOf25
  have mA := eb_methodAssignableTo
  have a25 := eb_assignable25
  have v25 := eb_valueOf25
  have f6 := eb_valueOf27
  have f7 := eb_type27
  have mK := eb_methodKind
  have mE := eb_methodElem
  have mI := eb_methodImplements
  have k27 := eb_kind27
  have k25 := eb_kind25
  have e27 := eb_elem27
  have i25 := eb_implements25
  have n8 := eb_isNil27 ⟨w.heap.size, 0, none⟩ t ((w.alloc (.cells #[.pointer (some t)] 91)).alloc (.cells #[.pointer (some ⟨10, 91, none⟩), .pointer (some ⟨w.heap.size, 0, none⟩), .int .u64 150] 112)) (by simp)
  have hlt : 1 < w.heap.size := World.block_lt_of_cell? w _ hg
  have hg2 : ((w.alloc (.cells #[.pointer (some t)] 91)).alloc (.cells #[.pointer (some ⟨10, 91, none⟩), .pointer (some ⟨w.heap.size, 0, none⟩), .int .u64 150] 112)).cell? ⟨1, 0, none⟩ = some (.iface 145 (.agg #[.pointer (some ⟨10, 64, none⟩)])) := by
    rw [World.cell?_alloc_lt _ _ ⟨1, 0, none⟩ (by simp; try omega), World.cell?_alloc_lt _ _ ⟨1, 0, none⟩ hlt]; exact hg
  have htl : t.block < w.heap.size := by
    rcases Nat.lt_or_ge t.block w.heap.size with h | h
    · exact h
    · simp [World.cell?, Array.getElem?_eq_none h] at ht0
  have el := eb_elemV27 ⟨w.heap.size, 0, none⟩ t (((w.alloc (.cells #[.pointer (some t)] 91)).alloc (.cells #[.pointer (some ⟨10, 91, none⟩), .pointer (some ⟨w.heap.size, 0, none⟩), .int .u64 150] 112)).alloc (.cells #[.pointer (some ⟨10, 91, none⟩), .pointer (some ⟨w.heap.size, 0, none⟩), .int .u64 150] 112)) (by rw [World.cell?_alloc_lt _ _ ⟨w.heap.size, 0, none⟩ (by simp; omega)]; simp)
  have st := eb_set25 t ⟨w.heap.size + 1 + 1 + 1, 0, none⟩ e old ((((w.alloc (.cells #[.pointer (some t)] 91)).alloc (.cells #[.pointer (some ⟨10, 91, none⟩), .pointer (some ⟨w.heap.size, 0, none⟩), .int .u64 150] 112)).alloc (.cells #[.pointer (some ⟨10, 91, none⟩), .pointer (some ⟨w.heap.size, 0, none⟩), .int .u64 150] 112)).alloc (.cells #[.pointer (some e)] 90))
    (by rw [World.cell?_alloc_at _ _ _ _ (by simp)]; rfl)
    (by rw [World.cell?_alloc_lt _ _ t (by simp; omega), World.cell?_alloc_lt _ _ t (by simp; omega), World.cell?_alloc_lt _ _ t (by simp; omega), World.cell?_alloc_lt _ _ t htl]; exact ht0)
    (by rw [World.frozen?_alloc_old _ _ t (by simp; omega), World.frozen?_alloc_old _ _ t (by simp; omega), World.frozen?_alloc_old _ _ t (by simp; omega), World.frozen?_alloc_old _ _ t (Nat.ne_of_lt htl)]; exact hf0)
  go_enter Tryz.func33, Tryz.ntmps33
  go_wp2
  refine wp_loop_rounds 1 ?_
  rw [rounds_succ]
  go_wp2
  go_ret
  exact ⟨rfl, rfl⟩
end Go.Proofs.YtnomfbmebafolaaGreatDoor.P

namespace Go.Proofs.YtnomfbmebafolaaGreatDoor.P
open Go.RowKit Go.Proofs.YtnomfbmebafolaaGreatDoorW.PrintWords Go.Proofs.YtnomfbmebafolaaGreatDoorW.PrintLast Go.Proofs.YtnomfbmebafolaaGreatDoorW.PrintMore
open M (I64)
set_option linter.unusedVariables false
set_option linter.unusedSimpArgs false
def G5 (w : World) : Prop := G4 w ∧ ∃ tp p, w.cell? ⟨0, 0, none⟩ = some (.iface tp p)
theorem gl_5_5 {w w' : World} (h : Below w.heap.size w w') (hG : G5 w) : G5 w' := by
  obtain ⟨h1, tp, p, h2⟩ := hG
  exact ⟨gl_4_4 h h1, tp, p, (h.cell (World.block_lt_of_cell? w _ h2)).trans h2⟩
theorem gl_5_1 {w w' : World} (h : Below w.heap.size w w') (hG : G5 w) : G1 w' := gl_4_1 h hG.1
abbrev srV (a b c : Int) (d : ByteArray) (t : TN) (v : Value) : Value := .agg #[.int .i64 a, .int .i64 b, .int .i64 c, .string d, .int .i64 t.f0, .int .i64 t.f1.f0, .int .i64 t.f1.f1, .string t.f1.f2, .int .i64 t.f2.f0.f0, .int .i64 t.f2.f0.f1, .int .i64 t.f2.f1.f0, .int .i64 t.f2.f1.f1, .string t.f3, v]
abbrev sr0 : Obj := .cells #[.int .i64 0, .int .i64 0, .int .i64 0, .string (⟨#[]⟩ : ByteArray), .int .i64 0, .int .i64 0, .int .i64 0, .string (⟨#[]⟩ : ByteArray), .int .i64 0, .int .i64 0, .int .i64 0, .int .i64 0, .string (⟨#[]⟩ : ByteArray), .slice none 0 0] 40 (0, 0)
abbrev srZ : Value := .agg #[.int .i64 0, .int .i64 0, .int .i64 0, .string (⟨#[]⟩ : ByteArray), .int .i64 0, .int .i64 0, .int .i64 0, .string (⟨#[]⟩ : ByteArray), .int .i64 0, .int .i64 0, .int .i64 0, .int .i64 0, .string (⟨#[]⟩ : ByteArray), .slice none 0 0]
theorem z14 {W : World} {g : Nat} {t : TypeId} {v0 v1 v2 v3 v4 v5 v6 v7 v8 v9 v10 v11 v12 v13 : Value} (h : W.heap[g]? = some (.cells #[v0, v1, v2, v3, v4, v5, v6, v7, v8, v9, v10, v11, v12, v13] t (0, 0))) :
    (W.cell? ⟨g, 0, none⟩ = some v0 ∧ W.cell? ⟨g, 1, none⟩ = some v1 ∧ W.cell? ⟨g, 2, none⟩ = some v2 ∧ W.cell? ⟨g, 3, none⟩ = some v3 ∧ W.cell? ⟨g, 4, none⟩ = some v4 ∧ W.cell? ⟨g, 5, none⟩ = some v5 ∧ W.cell? ⟨g, 6, none⟩ = some v6 ∧ W.cell? ⟨g, 7, none⟩ = some v7 ∧ W.cell? ⟨g, 8, none⟩ = some v8 ∧ W.cell? ⟨g, 9, none⟩ = some v9 ∧ W.cell? ⟨g, 10, none⟩ = some v10 ∧ W.cell? ⟨g, 11, none⟩ = some v11 ∧ W.cell? ⟨g, 12, none⟩ = some v12 ∧ W.cell? ⟨g, 13, none⟩ = some v13) ∧ (W.frozen? ⟨g, 0, none⟩ = false ∧ W.frozen? ⟨g, 1, none⟩ = false ∧ W.frozen? ⟨g, 2, none⟩ = false ∧ W.frozen? ⟨g, 3, none⟩ = false ∧ W.frozen? ⟨g, 4, none⟩ = false ∧ W.frozen? ⟨g, 5, none⟩ = false ∧ W.frozen? ⟨g, 6, none⟩ = false ∧ W.frozen? ⟨g, 7, none⟩ = false ∧ W.frozen? ⟨g, 8, none⟩ = false ∧ W.frozen? ⟨g, 9, none⟩ = false ∧ W.frozen? ⟨g, 10, none⟩ = false ∧ W.frozen? ⟨g, 11, none⟩ = false ∧ W.frozen? ⟨g, 12, none⟩ = false ∧ W.frozen? ⟨g, 13, none⟩ = false) :=
  ⟨⟨(blk_cell h 0).trans rfl, (blk_cell h 1).trans rfl, (blk_cell h 2).trans rfl, (blk_cell h 3).trans rfl, (blk_cell h 4).trans rfl, (blk_cell h 5).trans rfl, (blk_cell h 6).trans rfl, (blk_cell h 7).trans rfl, (blk_cell h 8).trans rfl, (blk_cell h 9).trans rfl, (blk_cell h 10).trans rfl, (blk_cell h 11).trans rfl, (blk_cell h 12).trans rfl, (blk_cell h 13).trans rfl⟩, blk_frozen h 0, blk_frozen h 1, blk_frozen h 2, blk_frozen h 3, blk_frozen h 4, blk_frozen h 5, blk_frozen h 6, blk_frozen h 7, blk_frozen h 8, blk_frozen h 9, blk_frozen h 10, blk_frozen h 11, blk_frozen h 12, blk_frozen h 13⟩
abbrev put14 (W : World) (g : Nat) (u0 u1 u2 u3 u4 u5 u6 u7 u8 u9 u10 u11 u12 u13 : Value) : World := ((((((((((((((W.setCell ⟨g, 0, none⟩ u0).setCell ⟨g, 1, none⟩ u1).setCell ⟨g, 2, none⟩ u2).setCell ⟨g, 3, none⟩ u3).setCell ⟨g, 4, none⟩ u4).setCell ⟨g, 5, none⟩ u5).setCell ⟨g, 6, none⟩ u6).setCell ⟨g, 7, none⟩ u7).setCell ⟨g, 8, none⟩ u8).setCell ⟨g, 9, none⟩ u9).setCell ⟨g, 10, none⟩ u10).setCell ⟨g, 11, none⟩ u11).setCell ⟨g, 12, none⟩ u12).setCell ⟨g, 13, none⟩ u13)
theorem put14_blk {W : World} {g : Nat} {t : TypeId} {v0 v1 v2 v3 v4 v5 v6 v7 v8 v9 v10 v11 v12 v13 : Value} (h : W.heap[g]? = some (.cells #[v0, v1, v2, v3, v4, v5, v6, v7, v8, v9, v10, v11, v12, v13] t (0, 0))) (u0 u1 u2 u3 u4 u5 u6 u7 u8 u9 u10 u11 u12 u13 : Value) : (put14 W g u0 u1 u2 u3 u4 u5 u6 u7 u8 u9 u10 u11 u12 u13).heap[g]? = some (.cells #[u0, u1, u2, u3, u4, u5, u6, u7, u8, u9, u10, u11, u12, u13] t (0, 0)) := by
  have h0 : ((W.setCell ⟨g, 0, none⟩ u0)).heap[g]? = some (.cells #[u0, v1, v2, v3, v4, v5, v6, v7, v8, v9, v10, v11, v12, v13] t (0, 0)) := blk_put h 0 u0 rfl
  have h1 : (((W.setCell ⟨g, 0, none⟩ u0).setCell ⟨g, 1, none⟩ u1)).heap[g]? = some (.cells #[u0, u1, v2, v3, v4, v5, v6, v7, v8, v9, v10, v11, v12, v13] t (0, 0)) := blk_put h0 1 u1 rfl
  have h2 : ((((W.setCell ⟨g, 0, none⟩ u0).setCell ⟨g, 1, none⟩ u1).setCell ⟨g, 2, none⟩ u2)).heap[g]? = some (.cells #[u0, u1, u2, v3, v4, v5, v6, v7, v8, v9, v10, v11, v12, v13] t (0, 0)) := blk_put h1 2 u2 rfl
  have h3 : (((((W.setCell ⟨g, 0, none⟩ u0).setCell ⟨g, 1, none⟩ u1).setCell ⟨g, 2, none⟩ u2).setCell ⟨g, 3, none⟩ u3)).heap[g]? = some (.cells #[u0, u1, u2, u3, v4, v5, v6, v7, v8, v9, v10, v11, v12, v13] t (0, 0)) := blk_put h2 3 u3 rfl
  have h4 : ((((((W.setCell ⟨g, 0, none⟩ u0).setCell ⟨g, 1, none⟩ u1).setCell ⟨g, 2, none⟩ u2).setCell ⟨g, 3, none⟩ u3).setCell ⟨g, 4, none⟩ u4)).heap[g]? = some (.cells #[u0, u1, u2, u3, u4, v5, v6, v7, v8, v9, v10, v11, v12, v13] t (0, 0)) := blk_put h3 4 u4 rfl
  have h5 : (((((((W.setCell ⟨g, 0, none⟩ u0).setCell ⟨g, 1, none⟩ u1).setCell ⟨g, 2, none⟩ u2).setCell ⟨g, 3, none⟩ u3).setCell ⟨g, 4, none⟩ u4).setCell ⟨g, 5, none⟩ u5)).heap[g]? = some (.cells #[u0, u1, u2, u3, u4, u5, v6, v7, v8, v9, v10, v11, v12, v13] t (0, 0)) := blk_put h4 5 u5 rfl
  have h6 : ((((((((W.setCell ⟨g, 0, none⟩ u0).setCell ⟨g, 1, none⟩ u1).setCell ⟨g, 2, none⟩ u2).setCell ⟨g, 3, none⟩ u3).setCell ⟨g, 4, none⟩ u4).setCell ⟨g, 5, none⟩ u5).setCell ⟨g, 6, none⟩ u6)).heap[g]? = some (.cells #[u0, u1, u2, u3, u4, u5, u6, v7, v8, v9, v10, v11, v12, v13] t (0, 0)) := blk_put h5 6 u6 rfl
  have h7 : (((((((((W.setCell ⟨g, 0, none⟩ u0).setCell ⟨g, 1, none⟩ u1).setCell ⟨g, 2, none⟩ u2).setCell ⟨g, 3, none⟩ u3).setCell ⟨g, 4, none⟩ u4).setCell ⟨g, 5, none⟩ u5).setCell ⟨g, 6, none⟩ u6).setCell ⟨g, 7, none⟩ u7)).heap[g]? = some (.cells #[u0, u1, u2, u3, u4, u5, u6, u7, v8, v9, v10, v11, v12, v13] t (0, 0)) := blk_put h6 7 u7 rfl
  have h8 : ((((((((((W.setCell ⟨g, 0, none⟩ u0).setCell ⟨g, 1, none⟩ u1).setCell ⟨g, 2, none⟩ u2).setCell ⟨g, 3, none⟩ u3).setCell ⟨g, 4, none⟩ u4).setCell ⟨g, 5, none⟩ u5).setCell ⟨g, 6, none⟩ u6).setCell ⟨g, 7, none⟩ u7).setCell ⟨g, 8, none⟩ u8)).heap[g]? = some (.cells #[u0, u1, u2, u3, u4, u5, u6, u7, u8, v9, v10, v11, v12, v13] t (0, 0)) := blk_put h7 8 u8 rfl
  have h9 : (((((((((((W.setCell ⟨g, 0, none⟩ u0).setCell ⟨g, 1, none⟩ u1).setCell ⟨g, 2, none⟩ u2).setCell ⟨g, 3, none⟩ u3).setCell ⟨g, 4, none⟩ u4).setCell ⟨g, 5, none⟩ u5).setCell ⟨g, 6, none⟩ u6).setCell ⟨g, 7, none⟩ u7).setCell ⟨g, 8, none⟩ u8).setCell ⟨g, 9, none⟩ u9)).heap[g]? = some (.cells #[u0, u1, u2, u3, u4, u5, u6, u7, u8, u9, v10, v11, v12, v13] t (0, 0)) := blk_put h8 9 u9 rfl
  have h10 : ((((((((((((W.setCell ⟨g, 0, none⟩ u0).setCell ⟨g, 1, none⟩ u1).setCell ⟨g, 2, none⟩ u2).setCell ⟨g, 3, none⟩ u3).setCell ⟨g, 4, none⟩ u4).setCell ⟨g, 5, none⟩ u5).setCell ⟨g, 6, none⟩ u6).setCell ⟨g, 7, none⟩ u7).setCell ⟨g, 8, none⟩ u8).setCell ⟨g, 9, none⟩ u9).setCell ⟨g, 10, none⟩ u10)).heap[g]? = some (.cells #[u0, u1, u2, u3, u4, u5, u6, u7, u8, u9, u10, v11, v12, v13] t (0, 0)) := blk_put h9 10 u10 rfl
  have h11 : (((((((((((((W.setCell ⟨g, 0, none⟩ u0).setCell ⟨g, 1, none⟩ u1).setCell ⟨g, 2, none⟩ u2).setCell ⟨g, 3, none⟩ u3).setCell ⟨g, 4, none⟩ u4).setCell ⟨g, 5, none⟩ u5).setCell ⟨g, 6, none⟩ u6).setCell ⟨g, 7, none⟩ u7).setCell ⟨g, 8, none⟩ u8).setCell ⟨g, 9, none⟩ u9).setCell ⟨g, 10, none⟩ u10).setCell ⟨g, 11, none⟩ u11)).heap[g]? = some (.cells #[u0, u1, u2, u3, u4, u5, u6, u7, u8, u9, u10, u11, v12, v13] t (0, 0)) := blk_put h10 11 u11 rfl
  have h12 : ((((((((((((((W.setCell ⟨g, 0, none⟩ u0).setCell ⟨g, 1, none⟩ u1).setCell ⟨g, 2, none⟩ u2).setCell ⟨g, 3, none⟩ u3).setCell ⟨g, 4, none⟩ u4).setCell ⟨g, 5, none⟩ u5).setCell ⟨g, 6, none⟩ u6).setCell ⟨g, 7, none⟩ u7).setCell ⟨g, 8, none⟩ u8).setCell ⟨g, 9, none⟩ u9).setCell ⟨g, 10, none⟩ u10).setCell ⟨g, 11, none⟩ u11).setCell ⟨g, 12, none⟩ u12)).heap[g]? = some (.cells #[u0, u1, u2, u3, u4, u5, u6, u7, u8, u9, u10, u11, u12, v13] t (0, 0)) := blk_put h11 12 u12 rfl
  have h13 : (((((((((((((((W.setCell ⟨g, 0, none⟩ u0).setCell ⟨g, 1, none⟩ u1).setCell ⟨g, 2, none⟩ u2).setCell ⟨g, 3, none⟩ u3).setCell ⟨g, 4, none⟩ u4).setCell ⟨g, 5, none⟩ u5).setCell ⟨g, 6, none⟩ u6).setCell ⟨g, 7, none⟩ u7).setCell ⟨g, 8, none⟩ u8).setCell ⟨g, 9, none⟩ u9).setCell ⟨g, 10, none⟩ u10).setCell ⟨g, 11, none⟩ u11).setCell ⟨g, 12, none⟩ u12).setCell ⟨g, 13, none⟩ u13)).heap[g]? = some (.cells #[u0, u1, u2, u3, u4, u5, u6, u7, u8, u9, u10, u11, u12, u13] t (0, 0)) := blk_put h12 13 u13 rfl
  exact h13
theorem put14_old {W : World} {g k : Nat} (hk : k ≠ g) (u0 u1 u2 u3 u4 u5 u6 u7 u8 u9 u10 u11 u12 u13 : Value) : (put14 W g u0 u1 u2 u3 u4 u5 u6 u7 u8 u9 u10 u11 u12 u13).heap[k]? = W.heap[k]? := by
  have one : ∀ (V : World) (j : Nat) (u : Value), (V.setCell ⟨g, j, none⟩ u).heap[k]? = V.heap[k]? := fun V j u => Below.heap_setCell V ⟨g, j, none⟩ u k hk
  unfold put14
  rw [one, one, one, one, one, one, one, one, one, one, one, one, one, one]
theorem put14_below {B g : Nat} {W0 W : World} (h : Below B W0 W) (hg : B ≤ g) (u0 u1 u2 u3 u4 u5 u6 u7 u8 u9 u10 u11 u12 u13 : Value) : Below B W0 (put14 W g u0 u1 u2 u3 u4 u5 u6 u7 u8 u9 u10 u11 u12 u13) :=
  put1_below (put1_below (put1_below (put1_below (put1_below (put1_below (put1_below (put1_below (put1_below (put1_below (put1_below (put1_below (put1_below (put1_below h hg) hg) hg) hg) hg) hg) hg) hg) hg) hg) hg) hg) hg) hg
theorem put14_vN {gr : Nat} {ok : Nat → Prop} {W : World} {v : Value} {l : List TN} (h : vN ok W v l) (hr : ∀ k, ok k → k ≠ gr) (u0 u1 u2 u3 u4 u5 u6 u7 u8 u9 u10 u11 u12 u13 : Value) : vN ok (put14 W gr u0 u1 u2 u3 u4 u5 u6 u7 u8 u9 u10 u11 u12 u13) v l :=
  Kd.V_step h (fun k hk _ => put14_old (hr k hk) ..)
abbrev SrOk (B : Nat) (a b c : Int) (d : ByteArray) (t : TN) (W' : World) (e : Ending) : Prop := ∃ v9, e = .returned (.tuple #[srV a b c d t v9, .nilIface]) ∧ vN (fun k => B ≤ k) W' v9 t.f4
abbrev SrBad (B : Nat) (p c : Int) (W' : World) (e : Ending) : Prop := ∃ q why, e = .returned (.tuple #[srZ, .iface 90 (ptr q)]) ∧ W'.heap[q]? = some (.cells #[.int .i64 p, .int .i64 c, why] 93 (0, 0)) ∧ B ≤ q
abbrev SparOk (s : ByteArray) (t : TN) : Prop := ∀ W : World, G5 W → Calls Tryz.prog 38 #[.string s] W fun e W' => SrOk W.heap.size 2 0 0 ⟨#[]⟩ t W' e ∧ Below W.heap.size W W'
abbrev SparBad (s : ByteArray) (p c : Int) : Prop := ∀ W : World, G5 W → Calls Tryz.prog 38 #[.string s] W fun e W' => SrBad W.heap.size p c W' e ∧ Below W.heap.size W W'
set_option maxHeartbeats 4000000 in
set_option maxRecDepth 100000 in
theorem spar_ok (s : ByteArray) (r1 r2 r3 : Int) (r4 : ByteArray) (r5 r6 r7 r8 : Int) (r9 : ByteArray) (r10 : List TN) (r11 r12 : Int) (K : Nat) (hp : tree_Parse.f K s = some (r1, r2, r3, r4, r5, r6, r7, r8, r9, r10, r11, r12)) (h0 : r12 = 0) : SparOk s ⟨r1, ⟨r2, r3, r4⟩, ⟨⟨r5, r6⟩, ⟨r7, r8⟩⟩, r9, r10⟩ := by
  intro W hG
  have hu := Tryz.underlying40
  have hu2 := Tryz.underlying31
  have HG := Lib.hid hG
  subst h0
  have HP := Lib.hid hp
  clear hG hp
  go_enter Tryz.func38, Tryz.ntmps38
  go_wp2_with (first | (go_at_call 14; (with_reducible refine (tree_Parse.calls K s r1 r2 r3 r4 r5 r6 r7 r8 r9 r10 r11 0 (W.alloc sr0) ?sg HP.out).mono ?_); (case sg => exact gl_4_4 (below_alloc (Below.refl _ _) sr0) HG.out.1); rintro e w1 ⟨v9, rfl, hv, hbl⟩; obtain ⟨AA, kk, rfl⟩ := Kd.V_slice hv; have HV := Lib.hid (Kd.V_mono (ok' := fun k => W.heap.size < k) (Kd.V_lower hv (Nat.zero_le _)) (fun k hk => (by simp at hk; omega))); have HB1 := Lib.hid (Below.on3 (Below.refl _ W) hbl (Nat.le_refl _)); have BK1 := Lib.hid (blk_below (blk_new W sr0) hbl); clear hv hbl; obtain ⟨⟨c0, c1, c2, c3, c4, c5, c6, c7, c8, c9, c10, c11, c12, c13⟩, z0, z1, z2, z3, z4, z5, z6, z7, z8, z9, z10, z11, z12, z13⟩ := z14 BK1.out; have hsy : W.heap.size < w1.heap.size := blk_lt BK1.out))
  refine bodyPost_ret (results_ct rfl _ _ W.heap.size 40 _ (0, 0) _ rfl (by with_reducible repeat (first | exact put14_blk BK1.out _ _ _ _ _ _ _ _ _ _ _ _ _ _ | exact BK1.out | refine blk_alloc ?_ _)) hu rfl (by kernel_rfl)) rfl ?_
  exact ⟨⟨.slice AA r10.length kk, rfl, (Kd.V_mono (ok := fun k => W.heap.size < k) (by with_reducible repeat (first | exact HV.out | refine Kd.V_alloc ?_ _ | refine put14_vN (ok := fun k => W.heap.size < k) ?_ (fun k hk => Nat.ne_of_gt hk) _ _ _ _ _ _ _ _ _ _ _ _ _ _)) (fun k hk => Nat.le_of_lt hk))⟩, (by with_reducible repeat (first | exact HB1.out | refine below_alloc ?_ _ | refine put14_below ?_ (Nat.le_refl _) _ _ _ _ _ _ _ _ _ _ _ _ _ _))⟩
set_option maxHeartbeats 4000000 in
set_option maxRecDepth 100000 in
theorem spar_bad (s : ByteArray) (r1 r2 r3 : Int) (r4 : ByteArray) (r5 r6 r7 r8 : Int) (r9 : ByteArray) (r10 : List TN) (r11 r12 : Int) (K : Nat) (hp : tree_Parse.f K s = some (r1, r2, r3, r4, r5, r6, r7, r8, r9, r10, r11, r12)) (h0 : r12 ≠ 0) (h2 : r12 ≠ 2) (z : Int) (ww : IntKind.i64.wrap (r11 + 1) = z) : SparBad s z r12 := by
  intro W hG
  have hu := Tryz.underlying40
  have hu2 := Tryz.underlying31
  have HG := Lib.hid hG
  have q0 : (r12 == 0) = false := beq_eq_false_iff_ne.2 h0
  have q2 : (r12 == 2) = false := beq_eq_false_iff_ne.2 h2
  have q3 : decide (r12 = 0) = false := decide_eq_false h0
  have q4 : decide (r12 = 2) = false := decide_eq_false h2
  have HP := Lib.hid hp
  clear hG hp h0 h2
  go_enter Tryz.func38, Tryz.ntmps38
  go_wp2_with (first | (go_at_call 14; (with_reducible refine (tree_Parse.calls K s r1 r2 r3 r4 r5 r6 r7 r8 r9 r10 r11 r12 (W.alloc sr0) ?sg HP.out).mono ?_); (case sg => exact gl_4_4 (below_alloc (Below.refl _ _) sr0) HG.out.1); rintro e w1 ⟨v9, rfl, hv, hbl⟩; obtain ⟨AA, kk, rfl⟩ := Kd.V_slice hv; have HV := Lib.hid (Kd.V_mono (ok' := fun k => W.heap.size < k) (Kd.V_lower hv (Nat.zero_le _)) (fun k hk => (by simp at hk; omega))); have HB1 := Lib.hid (Below.on3 (Below.refl _ W) hbl (Nat.le_refl _)); have BK1 := Lib.hid (blk_below (blk_new W sr0) hbl); clear hv hbl; obtain ⟨⟨c0, c1, c2, c3, c4, c5, c6, c7, c8, c9, c10, c11, c12, c13⟩, z0, z1, z2, z3, z4, z5, z6, z7, z8, z9, z10, z11, z12, z13⟩ := z14 BK1.out; have hsy : W.heap.size < w1.heap.size := blk_lt BK1.out))
  refine bodyPost_ret (results_ct rfl _ _ W.heap.size 40 _ (0, 0) _ rfl (by with_reducible repeat (first | exact put14_blk BK1.out _ _ _ _ _ _ _ _ _ _ _ _ _ _ | exact BK1.out | refine blk_alloc ?_ _)) hu rfl (by kernel_rfl)) rfl ?_
  refine ⟨⟨w1.heap.size + 1, .nilIface, rfl, ?_, by omega⟩, (by with_reducible repeat (first | exact HB1.out | refine below_alloc ?_ _ | refine put14_below ?_ (Nat.le_refl _) _ _ _ _ _ _ _ _ _ _ _ _ _ _))⟩
  have hq_ : w1.heap.size + 1 ≠ W.heap.size := by omega
  with_reducible repeat (first | exact blk_at _ _ _ (by simp [World.setCell]) | refine (put14_old hq_ _ _ _ _ _ _ _ _ _ _ _ _ _ _).trans ?_)
end Go.Proofs.YtnomfbmebafolaaGreatDoor.P

namespace Go.Proofs.YtnomfbmebafolaaGreatDoor.P
open Go.RowKit Go.Proofs.YtnomfbmebafolaaGreatDoorW.PrintWords Go.Proofs.YtnomfbmebafolaaGreatDoorW.PrintLast Go.Proofs.YtnomfbmebafolaaGreatDoorW.PrintMore
open M (I64)
set_option linter.unusedVariables false
set_option linter.unusedSimpArgs false
attribute [local go_sem ↓] Go.wp_at_zero Go.wp_at_succ
theorem bs_hit (q T : Nat) (w : World) (hg : w.cell? ⟨1, 0, none⟩ = some (.iface 145 (.agg #[.pointer (some ⟨10, 64, none⟩)]))) (ht : w.heap[T]? = some (.cells #[.pointer none] 90 (0, 0))) :
    Calls Tryz.prog 33 #[.iface 90 (ptr q), .iface 91 (ptr T)] w fun e w' => e = .returned (.bool true) ∧ w'.heap[T]? = some (.cells #[ptr q] 90 (0, 0)) ∧ ∃ w1, Below w.heap.size w w1 ∧ w' = w1.setCell ⟨T, 0, none⟩ (ptr q) := by
  refine (eb_hit ⟨q, 0, none⟩ ⟨T, 0, none⟩ (.pointer none) w hg ((blk_cell ht 0).trans rfl) (blk_frozen ht 0)).mono ?_
  rintro e w' ⟨rfl, rfl⟩
  have hb : Below w.heap.size w ((((w.alloc (.cells #[ptr T] 91)).alloc (.cells #[.pointer (some ⟨10, 91, none⟩), .pointer (some ⟨w.heap.size, 0, none⟩), .int .u64 150] 112)).alloc (.cells #[.pointer (some ⟨10, 91, none⟩), .pointer (some ⟨w.heap.size, 0, none⟩), .int .u64 150] 112)).alloc (.cells #[ptr q] 90)) := below_alloc (below_alloc (below_alloc (below_alloc (Below.refl _ _) _) _) _) _
  exact ⟨rfl, blk_put (blk_below ht hb) 0 _ rfl, _, hb, rfl⟩
set_option maxHeartbeats 4000000 in
set_option maxRecDepth 100000 in
theorem is_nil (tp : TypeId) (p : Value) (w : World) : Calls Tryz.prog 41 #[.nilIface, .iface tp p] w fun e w' => e = .returned (.bool false) ∧ w' = w := by
  have hq : ∀ w, (binOp .eql 64 .nilIface (.iface tp p)).run Tryz.prog w = .ok (.bool false) w := fun w => run_eql_iface_nil_left w tp p Tryz.underlying64
  go_enter Tryz.func41, Tryz.ntmps41
  go_wp2_with fail
  go_ret
  exact ⟨rfl, rfl⟩
set_option maxHeartbeats 4000000 in
set_option maxRecDepth 100000 in
theorem told_nil (W : World) (hG : G5 W) : Calls Tryz.prog 23 #[.nilIface] W fun e W' => e = .returned (.tuple #[.int .i64 0, .int .i64 0]) ∧ Below W.heap.size W W' := by
  obtain ⟨-, tp, p, hv⟩ := hG
  have hlt := World.block_lt_of_cell? W _ hv
  go_enter Tryz.func23, Tryz.ntmps23
  go_wp2_with (first | (go_at_call 33; (with_reducible refine (eb_nil _ _).mono ?_); rintro e w2 ⟨rfl, rfl⟩) | (go_at_call 41; (with_reducible refine (is_nil _ _ _).mono ?_); rintro e w2 ⟨rfl, rfl⟩))
  go_ret2
  exact ⟨rfl, below_alloc (Below.refl _ _) _⟩
set_option maxHeartbeats 4000000 in
set_option maxRecDepth 100000 in
theorem told_wrong (q : Nat) (p c : Int) (why : Value) (W : World) (hG : G5 W) (hq : W.heap[q]? = some (.cells #[.int .i64 p, .int .i64 c, why] 93 (0, 0))) : Calls Tryz.prog 23 #[.iface 90 (ptr q)] W fun e W' => e = .returned (.tuple #[.int .i64 p, .int .i64 c]) ∧ Below W.heap.size W W' := by
  have HG := Lib.hid hG
  have HQ := Lib.hid hq
  clear hG hq
  go_enter Tryz.func23, Tryz.ntmps23
  go_wp2_with (first | (go_at_call 33; (with_reducible refine (bs_hit q _ _ ?sg ?st).mono ?_); (case sg => exact (gl_4_4 (below_alloc (Below.refl _ _) _) HG.out.1).2); (case st => exact blk_at _ _ _ rfl); rintro e w2 ⟨rfl, ht, wx, hbl, hw⟩; have hb2 : Below W.heap.size W w2 := (by rw [hw]; exact put1_below (Below.on2 (below_alloc (Below.refl _ _) _) hbl (by simp)) (Nat.le_refl _)); clear hw hbl; have HB2 := Lib.hid hb2; have e1_ := blk_below HQ.out hb2; have e2_ := blk_lt HQ.out; have s0 := (blk_cell ht 0).trans rfl; have s1 := (blk_cell e1_ 0).trans rfl; have s2 := (blk_cell e1_ 1).trans rfl; have n1 : (q = W.heap.size) = False := eq_false (by omega); have n2 : (W.heap.size = q) = False := eq_false (by omega); clear ht hb2 e1_ e2_))
  go_region_held3 (fun w' => w'.cell? ⟨W.heap.size, 0, none⟩ = some (ptr q) ∧ w'.cell? ⟨q, 0, none⟩ = some (.int .i64 p) ∧ w'.cell? ⟨q, 1, none⟩ = some (.int .i64 c)) (go_keep) (fail)
  go_wp2
  go_ret2
  exact ⟨rfl, by with_reducible repeat (first | exact HB2.out | refine pw_below_drewN ?_ _ | refine Below.drew ?_)⟩
end Go.Proofs.YtnomfbmebafolaaGreatDoor.P
