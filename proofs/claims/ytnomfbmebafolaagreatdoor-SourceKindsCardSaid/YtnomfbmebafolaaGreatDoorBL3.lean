/- Contracts of the functions that the law reaches, each with the plain function that it comes to, and plain facts about these. -/
import Derived.Laws.Strings
import Derived.Lib.OthersKept
import Derived.Laws.RangeAny
import Derived.WalkSmall
import Derived.LoopTactic
import Derived.Test.YtnomfbmebafolaaGreatDoorBL2
namespace Go.Proofs.YtnomfbmebafolaaGreatDoor.P
open Go.RowKit Go.Proofs.YtnomfbmebafolaaGreatDoorW.PrintWords Go.Proofs.YtnomfbmebafolaaGreatDoorW.PrintLast Go.Proofs.YtnomfbmebafolaaGreatDoorW.PrintMore
attribute [local go_sem] max2_int min2_int max_two min_two max_three min_three max_four min_four   -- for this text's walks alone
set_option linter.unusedVariables false
set_option linter.unusedSimpArgs false
def addr_Made.f (a0_0 : Int) (a0_1 : Int) (a1_0 : Int) (a1_1 : Int) : Option (Int × Int × Int × Int × Bool) := (addr_Good.f a0_0 a0_1).bind fun t170 => (if t170 = true then ((addr_Good.f a1_0 a1_1).bind fun t171 => (if t171 = true then (some (mn a0_0 a1_0, mn a0_1 a1_1, mx a0_0 a1_0, mx a0_1 a1_1, true)) else (some (0, 0, 0, 0, false)))) else (some (0, 0, 0, 0, false)))
set_option maxHeartbeats 8000000 in
set_option maxRecDepth 100000 in
theorem addr_Made.calls (a0_0 : Int) (a0_1 : Int) (a1_0 : Int) (a1_1 : Int) (r1 : Int) (r2 : Int) (r3 : Int) (r4 : Int) (r5 : Bool) (w : World) (h : addr_Made.f a0_0 a0_1 a1_0 a1_1 = some (r1, r2, r3, r4, r5)) :
    Calls Tryz.prog 139 #[.agg #[.int .i64 a0_0, .int .i64 a0_1], .agg #[.int .i64 a1_0, .int .i64 a1_1]] w fun e w' => e = .returned (.tuple #[.agg #[.int .i64 r1, .int .i64 r2, .int .i64 r3, .int .i64 r4], .bool r5]) ∧ Below w.heap.size w w' := by
  have hu26 := Tryz.underlying26
  have hu28 := Tryz.underlying28
  have HB := Aside0.mk (Below.refl w.heap.size w)
  have H : ((addr_Good.f a0_0 a0_1).bind fun t170 => (if t170 = true then ((addr_Good.f a1_0 a1_1).bind fun t171 => (if t171 = true then (some (mn a0_0 a1_0, mn a0_1 a1_1, mx a0_0 a1_0, mx a0_1 a1_1, true)) else (some (0, 0, 0, 0, false)))) else (some (0, 0, 0, 0, false)))) = some (r1, r2, r3, r4, r5) := h
  clear h
  replace H := Option.bind_eq_some_iff.mp H
  obtain ⟨t170, A30, H⟩ := H
  replace H : (if t170 = true then ((addr_Good.f a1_0 a1_1).bind fun t171 => (if t171 = true then (some (mn a0_0 a1_0, mn a0_1 a1_1, mx a0_0 a1_0, mx a0_1 a1_1, true)) else (some (0, 0, 0, 0, false)))) else (some (0, 0, 0, 0, false))) = some (r1, r2, r3, r4, r5) := H
  have A3 := Aside0.mk A30
  clear A30
  by_cases c4 : t170 = true
  · subst c4
    have H1 : ((addr_Good.f a1_0 a1_1).bind fun t171 => (if t171 = true then (some (mn a0_0 a1_0, mn a0_1 a1_1, mx a0_0 a1_0, mx a0_1 a1_1, true)) else (some (0, 0, 0, 0, false)))) = some (r1, r2, r3, r4, r5) := by rw [if_pos rfl] at H; exact H
    clear H
    have H := H1
    clear H1
    replace H := Option.bind_eq_some_iff.mp H
    obtain ⟨t171, A50, H⟩ := H
    replace H : (if t171 = true then (some (mn a0_0 a1_0, mn a0_1 a1_1, mx a0_0 a1_0, mx a0_1 a1_1, true)) else (some (0, 0, 0, 0, false))) = some (r1, r2, r3, r4, r5) := H
    have A5 := Aside0.mk A50
    clear A50
    by_cases c6 : t171 = true
    · subst c6
      have H1 : (some (mn a0_0 a1_0, mn a0_1 a1_1, mx a0_0 a1_0, mx a0_1 a1_1, true)) = some (r1, r2, r3, r4, r5) := by rw [if_pos rfl] at H; exact H
      clear H
      have H := H1
      clear H1
      obtain ⟨ji7, hji7⟩ : ∃ j_ : Int, (mn a0_0 a1_0) = j_ := ⟨_, rfl⟩
      replace H : (some (ji7, mn a0_1 a1_1, mx a0_0 a1_0, mx a0_1 a1_1, true)) = some (r1, r2, r3, r4, r5) := by first | (rw [hji7] at H; exact H) | (simp only [hji7] at H ⊢; exact H)
      (try rw [hji7] at A3)
      (try rw [hji7] at A5)
      have hji7_ : (if a1_0 < a0_0 then a1_0 else a0_0) = ji7 := hji7
      obtain ⟨ji8, hji8⟩ : ∃ j_ : Int, (mn a0_1 a1_1) = j_ := ⟨_, rfl⟩
      replace H : (some (ji7, ji8, mx a0_0 a1_0, mx a0_1 a1_1, true)) = some (r1, r2, r3, r4, r5) := by first | (rw [hji8] at H; exact H) | (simp only [hji8] at H ⊢; exact H)
      (try rw [hji8] at A3)
      (try rw [hji8] at A5)
      have hji8_ : (if a1_1 < a0_1 then a1_1 else a0_1) = ji8 := hji8
      obtain ⟨ji9, hji9⟩ : ∃ j_ : Int, (mx a0_0 a1_0) = j_ := ⟨_, rfl⟩
      replace H : (some (ji7, ji8, ji9, mx a0_1 a1_1, true)) = some (r1, r2, r3, r4, r5) := by first | (rw [hji9] at H; exact H) | (simp only [hji9] at H ⊢; exact H)
      (try rw [hji9] at A3)
      (try rw [hji9] at A5)
      have hji9_ : (if a0_0 < a1_0 then a1_0 else a0_0) = ji9 := hji9
      obtain ⟨ji10, hji10⟩ : ∃ j_ : Int, (mx a0_1 a1_1) = j_ := ⟨_, rfl⟩
      replace H : (some (ji7, ji8, ji9, ji10, true)) = some (r1, r2, r3, r4, r5) := by first | (rw [hji10] at H; exact H) | (simp only [hji10] at H ⊢; exact H)
      (try rw [hji10] at A3)
      (try rw [hji10] at A5)
      have hji10_ : (if a0_1 < a1_1 then a1_1 else a0_1) = ji10 := hji10
      simp only [Option.some.injEq, Prod.mk.injEq] at H
      obtain ⟨rfl, rfl, rfl, rfl, rfl⟩ := H
      go_enter Tryz.func139, Tryz.ntmps139
      go_wp2_with (first | ((with_reducible refine gate_dst (N := 2) rfl ?_); refine box_event ?hg (N := 2) ?hd (cs := #[.int .i64 a0_0, .int .i64 a0_1]) (t := 26) ?hr ?_; (case hd => rfl); (case hg => rfl); (case hr => first | (go_simp; done) | (go_simp; rfl)); intro gb167 hg w11 hbox hb; have n0_ := Aside0.mk (below_step zz1 hb); have n1_ := Aside0.mk (hbox); have n2_ := Aside0.mk ((by rw [hg]; exact (below_size zz1) : w.heap.size ≤ gb167)); have n3_ := n2_; clear HB; have HB := n0_; have BK167 := n1_; have GW167 := n2_; have GE167 := n3_; clear n0_ n1_ n2_ n3_; clear hb hbox hg) | ((with_reducible refine gate_dst (N := 3) rfl ?_); refine box_event ?hg (N := 3) ?hd (cs := #[.int .i64 a1_0, .int .i64 a1_1]) (t := 26) ?hr ?_; (case hd => rfl); (case hg => rfl); (case hr => first | (go_simp; done) | (go_simp; rfl)); intro gb168 hg w12 hbox hb; have n0_ := Aside0.mk (blk_below (g := gb167) (o := .cells #[.int .i64 a0_0, .int .i64 a0_1] 26 (0, 0)) (zB BK167.out) hb); have n1_ := Aside0.mk (below_step zz12 hb); have n2_ := Aside0.mk (hbox); have n3_ := Aside0.mk ((by rw [hg]; exact (below_size zz12) : w.heap.size ≤ gb168)); have n4_ := n3_; have n5_ := Aside0.mk ((by rw [hg]; exact Nat.ne_of_lt (blk_lt (g := gb167) (o := .cells #[.int .i64 a0_0, .int .i64 a0_1] 26 (0, 0)) (zB BK167.out)) : gb167 ≠ gb168)); have n6_ := Aside0.mk ((by rw [hg]; exact Nat.ne_of_gt (blk_lt (g := gb167) (o := .cells #[.int .i64 a0_0, .int .i64 a0_1] 26 (0, 0)) (zB BK167.out)) : gb168 ≠ gb167)); clear BK167; clear HB; have BK167 := n0_; have HB := n1_; have BK168 := n2_; have GW168 := n3_; have GE168 := n4_; have NB167_168 := n5_; have NB168_167 := n6_; clear n0_ n1_ n2_ n3_ n4_ n5_ n6_; clear hb hbox hg) | ((with_reducible refine gate_dst (N := 4) rfl ?_); refine box_event ?hg (N := 4) ?hd (cs := #[.int .i64 0, .int .i64 0, .int .i64 0, .int .i64 0]) (t := 28) ?hr ?_; (case hd => rfl); (case hg => rfl); (case hr => first | (go_simp; done) | (go_simp; rfl)); intro gb169 hg w13 hbox hb; have n0_ := Aside0.mk (blk_below (g := gb167) (o := .cells #[.int .i64 a0_0, .int .i64 a0_1] 26 (0, 0)) (zB BK167.out) hb); have n1_ := Aside0.mk (blk_below (g := gb168) (o := .cells #[.int .i64 a1_0, .int .i64 a1_1] 26 (0, 0)) (zB BK168.out) hb); have n2_ := Aside0.mk (below_step zz13 hb); have n3_ := Aside0.mk (hbox); have n4_ := Aside0.mk ((by rw [hg]; exact (below_size zz13) : w.heap.size ≤ gb169)); have n5_ := n4_; have n6_ := Aside0.mk ((by rw [hg]; exact Nat.ne_of_lt (blk_lt (g := gb167) (o := .cells #[.int .i64 a0_0, .int .i64 a0_1] 26 (0, 0)) (zB BK167.out)) : gb167 ≠ gb169)); have n7_ := Aside0.mk ((by rw [hg]; exact Nat.ne_of_gt (blk_lt (g := gb167) (o := .cells #[.int .i64 a0_0, .int .i64 a0_1] 26 (0, 0)) (zB BK167.out)) : gb169 ≠ gb167)); have n8_ := Aside0.mk ((by rw [hg]; exact Nat.ne_of_lt (blk_lt (g := gb168) (o := .cells #[.int .i64 a1_0, .int .i64 a1_1] 26 (0, 0)) (zB BK168.out)) : gb168 ≠ gb169)); have n9_ := Aside0.mk ((by rw [hg]; exact Nat.ne_of_gt (blk_lt (g := gb168) (o := .cells #[.int .i64 a1_0, .int .i64 a1_1] 26 (0, 0)) (zB BK168.out)) : gb169 ≠ gb168)); clear BK167; clear BK168; clear HB; have BK167 := n0_; have BK168 := n1_; have HB := n2_; have BK169 := n3_; have GW169 := n4_; have GE169 := n5_; have NB167_169 := n6_; have NB169_167 := n7_; have NB168_169 := n8_; have NB169_168 := n9_; clear n0_ n1_ n2_ n3_ n4_ n5_ n6_ n7_ n8_ n9_; clear hb hbox hg; have hnb14 := NB167_168.out; have hnc14 := NB168_167.out; have hnb15 := NB167_169.out; have hnc15 := NB169_167.out; obtain ⟨_, _, _, _⟩ := zC2 BK167.out) | ((with_reducible refine gate_callee (f := 48) rfl ?_); refine goesL_ (some 7) rfl rfl Tryz.func48 (by kernel_rfl) rfl #[.agg #[.int .i64 a0_0, .int .i64 a0_1]] rfl zz25 ?_; (with_reducible refine (addr_Good.calls a0_0 a0_1 true _ A3.out).mono ?_); rintro e w17 ⟨rfl, hb⟩; refine ⟨_, rfl, ?_⟩; have n0_ := Aside0.mk (blk_below (g := gb167) (o := .cells #[.int .i64 a0_0, .int .i64 a0_1] 26 (0, 0)) (zB BK167.out) hb); have n1_ := Aside0.mk (blk_below (g := gb168) (o := .cells #[.int .i64 a1_0, .int .i64 a1_1] 26 (0, 0)) (zB BK168.out) hb); have n2_ := Aside0.mk (blk_below (g := gb169) (o := .cells #[.int .i64 0, .int .i64 0, .int .i64 0, .int .i64 0] 28 (0, 0)) (zB BK169.out) hb); have n3_ := Aside0.mk (below_step zz10 hb); clear BK167; clear BK168; clear BK169; clear HB; have BK167 := n0_; have BK168 := n1_; have BK169 := n2_; have HB := n3_; clear n0_ n1_ n2_ n3_; (try clear hb); (try clear hb2); (try clear hk); (try clear hi); have hnb18 := NB168_169.out; have hnc18 := NB169_168.out; obtain ⟨_, _, _, _⟩ := zC2 BK168.out) | (go_at_call 48; (with_reducible refine (addr_Good.calls a1_0 a1_1 true _ A5.out).mono ?_); rintro e w20 ⟨rfl, hb⟩; have n0_ := Aside0.mk (blk_below (g := gb167) (o := .cells #[.int .i64 a0_0, .int .i64 a0_1] 26 (0, 0)) (zB BK167.out) hb); have n1_ := Aside0.mk (blk_below (g := gb168) (o := .cells #[.int .i64 a1_0, .int .i64 a1_1] 26 (0, 0)) (zB BK168.out) hb); have n2_ := Aside0.mk (blk_below (g := gb169) (o := .cells #[.int .i64 0, .int .i64 0, .int .i64 0, .int .i64 0] 28 (0, 0)) (zB BK169.out) hb); have n3_ := Aside0.mk (below_step zz10 hb); clear BK167; clear BK168; clear BK169; clear HB; have BK167 := n0_; have BK168 := n1_; have BK169 := n2_; have HB := n3_; clear n0_ n1_ n2_ n3_; (try clear hb); (try clear hb2); (try clear hk); (try clear hi); obtain ⟨_, _, _, _⟩ := zC2 BK167.out; obtain ⟨_, _, _, _⟩ := zC2 BK168.out; obtain ⟨_, _, _, _, _, _, _, _⟩ := zC4 BK169.out))
      refine bodyPost_ret (results_ct rfl _ _ gb169 28 #[.int .i64 ji7, .int .i64 ji8, .int .i64 ji9, .int .i64 ji10] (0, 0) _ rfl (by (with_reducible repeat (first | refine blk_drewN ?_ _ | refine blk_drew ?_ | refine blk_alloc ?_ _)); refine blk_put (cs := #[.int .i64 ji7, .int .i64 ji8, .int .i64 ji9, .int .i64 0]) ?_ 3 _ rfl; (with_reducible repeat (first | refine blk_drewN ?_ _ | refine blk_drew ?_ | refine blk_alloc ?_ _)); refine blk_put (cs := #[.int .i64 ji7, .int .i64 ji8, .int .i64 0, .int .i64 0]) ?_ 2 _ rfl; (with_reducible repeat (first | refine blk_drewN ?_ _ | refine blk_drew ?_ | refine blk_alloc ?_ _)); refine blk_put (cs := #[.int .i64 ji7, .int .i64 0, .int .i64 0, .int .i64 0]) ?_ 1 _ rfl; (with_reducible repeat (first | refine blk_drewN ?_ _ | refine blk_drew ?_ | refine blk_alloc ?_ _)); refine blk_put (cs := #[.int .i64 0, .int .i64 0, .int .i64 0, .int .i64 0]) ?_ 0 _ rfl; (with_reducible repeat (first | refine blk_drewN ?_ _ | refine blk_drew ?_ | refine blk_alloc ?_ _)); exact BK169.out) Tryz.underlying28 rfl (by kernel_rfl)) rfl ?_
      exact ⟨by first | rfl | (simp [errW_none, errW_some] <;> rfl) | (simp only [← hji7, ← hji8, ← hji9, ← hji10]; first | rfl | (simp [errW_none, errW_some] <;> rfl)) | (simp [*, errW_none, errW_some] <;> rfl), zz10⟩
    · replace c6 := Bool.eq_false_iff.mpr c6
      subst c6
      have H1 : (some (0, 0, 0, 0, false)) = some (r1, r2, r3, r4, r5) := by rw [if_neg (show ¬ (false = true) by decide)] at H; exact H
      clear H
      have H := H1
      clear H1
      simp only [Option.some.injEq, Prod.mk.injEq] at H
      obtain ⟨rfl, rfl, rfl, rfl, rfl⟩ := H
      go_enter Tryz.func139, Tryz.ntmps139
      go_wp2_with (first | ((with_reducible refine gate_dst (N := 2) rfl ?_); refine box_event ?hg (N := 2) ?hd (cs := #[.int .i64 a0_0, .int .i64 a0_1]) (t := 26) ?hr ?_; (case hd => rfl); (case hg => rfl); (case hr => first | (go_simp; done) | (go_simp; rfl)); intro gb167 hg w24 hbox hb; have n0_ := Aside0.mk (below_step zz1 hb); have n1_ := Aside0.mk (hbox); have n2_ := Aside0.mk ((by rw [hg]; exact (below_size zz1) : w.heap.size ≤ gb167)); have n3_ := n2_; clear HB; have HB := n0_; have BK167 := n1_; have GW167 := n2_; have GE167 := n3_; clear n0_ n1_ n2_ n3_; clear hb hbox hg) | ((with_reducible refine gate_dst (N := 3) rfl ?_); refine box_event ?hg (N := 3) ?hd (cs := #[.int .i64 a1_0, .int .i64 a1_1]) (t := 26) ?hr ?_; (case hd => rfl); (case hg => rfl); (case hr => first | (go_simp; done) | (go_simp; rfl)); intro gb168 hg w25 hbox hb; have n0_ := Aside0.mk (blk_below (g := gb167) (o := .cells #[.int .i64 a0_0, .int .i64 a0_1] 26 (0, 0)) (zB BK167.out) hb); have n1_ := Aside0.mk (below_step zz12 hb); have n2_ := Aside0.mk (hbox); have n3_ := Aside0.mk ((by rw [hg]; exact (below_size zz12) : w.heap.size ≤ gb168)); have n4_ := n3_; have n5_ := Aside0.mk ((by rw [hg]; exact Nat.ne_of_lt (blk_lt (g := gb167) (o := .cells #[.int .i64 a0_0, .int .i64 a0_1] 26 (0, 0)) (zB BK167.out)) : gb167 ≠ gb168)); have n6_ := Aside0.mk ((by rw [hg]; exact Nat.ne_of_gt (blk_lt (g := gb167) (o := .cells #[.int .i64 a0_0, .int .i64 a0_1] 26 (0, 0)) (zB BK167.out)) : gb168 ≠ gb167)); clear BK167; clear HB; have BK167 := n0_; have HB := n1_; have BK168 := n2_; have GW168 := n3_; have GE168 := n4_; have NB167_168 := n5_; have NB168_167 := n6_; clear n0_ n1_ n2_ n3_ n4_ n5_ n6_; clear hb hbox hg) | ((with_reducible refine gate_dst (N := 4) rfl ?_); refine box_event ?hg (N := 4) ?hd (cs := #[.int .i64 0, .int .i64 0, .int .i64 0, .int .i64 0]) (t := 28) ?hr ?_; (case hd => rfl); (case hg => rfl); (case hr => first | (go_simp; done) | (go_simp; rfl)); intro gb169 hg w26 hbox hb; have n0_ := Aside0.mk (blk_below (g := gb167) (o := .cells #[.int .i64 a0_0, .int .i64 a0_1] 26 (0, 0)) (zB BK167.out) hb); have n1_ := Aside0.mk (blk_below (g := gb168) (o := .cells #[.int .i64 a1_0, .int .i64 a1_1] 26 (0, 0)) (zB BK168.out) hb); have n2_ := Aside0.mk (below_step zz13 hb); have n3_ := Aside0.mk (hbox); have n4_ := Aside0.mk ((by rw [hg]; exact (below_size zz13) : w.heap.size ≤ gb169)); have n5_ := n4_; have n6_ := Aside0.mk ((by rw [hg]; exact Nat.ne_of_lt (blk_lt (g := gb167) (o := .cells #[.int .i64 a0_0, .int .i64 a0_1] 26 (0, 0)) (zB BK167.out)) : gb167 ≠ gb169)); have n7_ := Aside0.mk ((by rw [hg]; exact Nat.ne_of_gt (blk_lt (g := gb167) (o := .cells #[.int .i64 a0_0, .int .i64 a0_1] 26 (0, 0)) (zB BK167.out)) : gb169 ≠ gb167)); have n8_ := Aside0.mk ((by rw [hg]; exact Nat.ne_of_lt (blk_lt (g := gb168) (o := .cells #[.int .i64 a1_0, .int .i64 a1_1] 26 (0, 0)) (zB BK168.out)) : gb168 ≠ gb169)); have n9_ := Aside0.mk ((by rw [hg]; exact Nat.ne_of_gt (blk_lt (g := gb168) (o := .cells #[.int .i64 a1_0, .int .i64 a1_1] 26 (0, 0)) (zB BK168.out)) : gb169 ≠ gb168)); clear BK167; clear BK168; clear HB; have BK167 := n0_; have BK168 := n1_; have HB := n2_; have BK169 := n3_; have GW169 := n4_; have GE169 := n5_; have NB167_169 := n6_; have NB169_167 := n7_; have NB168_169 := n8_; have NB169_168 := n9_; clear n0_ n1_ n2_ n3_ n4_ n5_ n6_ n7_ n8_ n9_; clear hb hbox hg; have hnb27 := NB167_168.out; have hnc27 := NB168_167.out; have hnb28 := NB167_169.out; have hnc28 := NB169_167.out; obtain ⟨_, _, _, _⟩ := zC2 BK167.out) | ((with_reducible refine gate_callee (f := 48) rfl ?_); refine goesL_ (some 7) rfl rfl Tryz.func48 (by kernel_rfl) rfl #[.agg #[.int .i64 a0_0, .int .i64 a0_1]] rfl zz25 ?_; (with_reducible refine (addr_Good.calls a0_0 a0_1 true _ A3.out).mono ?_); rintro e w30 ⟨rfl, hb⟩; refine ⟨_, rfl, ?_⟩; have n0_ := Aside0.mk (blk_below (g := gb167) (o := .cells #[.int .i64 a0_0, .int .i64 a0_1] 26 (0, 0)) (zB BK167.out) hb); have n1_ := Aside0.mk (blk_below (g := gb168) (o := .cells #[.int .i64 a1_0, .int .i64 a1_1] 26 (0, 0)) (zB BK168.out) hb); have n2_ := Aside0.mk (blk_below (g := gb169) (o := .cells #[.int .i64 0, .int .i64 0, .int .i64 0, .int .i64 0] 28 (0, 0)) (zB BK169.out) hb); have n3_ := Aside0.mk (below_step zz10 hb); clear BK167; clear BK168; clear BK169; clear HB; have BK167 := n0_; have BK168 := n1_; have BK169 := n2_; have HB := n3_; clear n0_ n1_ n2_ n3_; (try clear hb); (try clear hb2); (try clear hk); (try clear hi); have hnb31 := NB168_169.out; have hnc31 := NB169_168.out; obtain ⟨_, _, _, _⟩ := zC2 BK168.out) | (go_at_call 48; (with_reducible refine (addr_Good.calls a1_0 a1_1 false _ A5.out).mono ?_); rintro e w33 ⟨rfl, hb⟩; have n0_ := Aside0.mk (blk_below (g := gb167) (o := .cells #[.int .i64 a0_0, .int .i64 a0_1] 26 (0, 0)) (zB BK167.out) hb); have n1_ := Aside0.mk (blk_below (g := gb168) (o := .cells #[.int .i64 a1_0, .int .i64 a1_1] 26 (0, 0)) (zB BK168.out) hb); have n2_ := Aside0.mk (blk_below (g := gb169) (o := .cells #[.int .i64 0, .int .i64 0, .int .i64 0, .int .i64 0] 28 (0, 0)) (zB BK169.out) hb); have n3_ := Aside0.mk (below_step zz10 hb); clear BK167; clear BK168; clear BK169; clear HB; have BK167 := n0_; have BK168 := n1_; have BK169 := n2_; have HB := n3_; clear n0_ n1_ n2_ n3_; (try clear hb); (try clear hb2); (try clear hk); (try clear hi); obtain ⟨_, _, _, _, _, _, _, _⟩ := zC4 BK169.out))
      refine bodyPost_ret (results_ct rfl _ _ gb169 28 #[.int .i64 0, .int .i64 0, .int .i64 0, .int .i64 0] (0, 0) _ rfl (by (with_reducible repeat (first | refine blk_drewN ?_ _ | refine blk_drew ?_ | refine blk_alloc ?_ _)); refine blk_put (cs := #[.int .i64 0, .int .i64 0, .int .i64 0, .int .i64 0]) ?_ 3 _ rfl; (with_reducible repeat (first | refine blk_drewN ?_ _ | refine blk_drew ?_ | refine blk_alloc ?_ _)); refine blk_put (cs := #[.int .i64 0, .int .i64 0, .int .i64 0, .int .i64 0]) ?_ 2 _ rfl; (with_reducible repeat (first | refine blk_drewN ?_ _ | refine blk_drew ?_ | refine blk_alloc ?_ _)); refine blk_put (cs := #[.int .i64 0, .int .i64 0, .int .i64 0, .int .i64 0]) ?_ 1 _ rfl; (with_reducible repeat (first | refine blk_drewN ?_ _ | refine blk_drew ?_ | refine blk_alloc ?_ _)); refine blk_put (cs := #[.int .i64 0, .int .i64 0, .int .i64 0, .int .i64 0]) ?_ 0 _ rfl; (with_reducible repeat (first | refine blk_drewN ?_ _ | refine blk_drew ?_ | refine blk_alloc ?_ _)); exact BK169.out) Tryz.underlying28 rfl (by kernel_rfl)) rfl ?_
      exact ⟨zz26, zz10⟩
  · replace c4 := Bool.eq_false_iff.mpr c4
    subst c4
    have H1 : (some (0, 0, 0, 0, false)) = some (r1, r2, r3, r4, r5) := by rw [if_neg (show ¬ (false = true) by decide)] at H; exact H
    clear H
    have H := H1
    clear H1
    simp only [Option.some.injEq, Prod.mk.injEq] at H
    obtain ⟨rfl, rfl, rfl, rfl, rfl⟩ := H
    go_enter Tryz.func139, Tryz.ntmps139
    go_wp2_with (first | ((with_reducible refine gate_dst (N := 2) rfl ?_); refine box_event ?hg (N := 2) ?hd (cs := #[.int .i64 a0_0, .int .i64 a0_1]) (t := 26) ?hr ?_; (case hd => rfl); (case hg => rfl); (case hr => first | (go_simp; done) | (go_simp; rfl)); intro gb167 hg w35 hbox hb; have n0_ := Aside0.mk (below_step zz1 hb); have n1_ := Aside0.mk (hbox); have n2_ := Aside0.mk ((by rw [hg]; exact (below_size zz1) : w.heap.size ≤ gb167)); have n3_ := n2_; clear HB; have HB := n0_; have BK167 := n1_; have GW167 := n2_; have GE167 := n3_; clear n0_ n1_ n2_ n3_; clear hb hbox hg) | ((with_reducible refine gate_dst (N := 3) rfl ?_); refine box_event ?hg (N := 3) ?hd (cs := #[.int .i64 a1_0, .int .i64 a1_1]) (t := 26) ?hr ?_; (case hd => rfl); (case hg => rfl); (case hr => first | (go_simp; done) | (go_simp; rfl)); intro gb168 hg w36 hbox hb; have n0_ := Aside0.mk (blk_below (g := gb167) (o := .cells #[.int .i64 a0_0, .int .i64 a0_1] 26 (0, 0)) (zB BK167.out) hb); have n1_ := Aside0.mk (below_step zz12 hb); have n2_ := Aside0.mk (hbox); have n3_ := Aside0.mk ((by rw [hg]; exact (below_size zz12) : w.heap.size ≤ gb168)); have n4_ := n3_; have n5_ := Aside0.mk ((by rw [hg]; exact Nat.ne_of_lt (blk_lt (g := gb167) (o := .cells #[.int .i64 a0_0, .int .i64 a0_1] 26 (0, 0)) (zB BK167.out)) : gb167 ≠ gb168)); have n6_ := Aside0.mk ((by rw [hg]; exact Nat.ne_of_gt (blk_lt (g := gb167) (o := .cells #[.int .i64 a0_0, .int .i64 a0_1] 26 (0, 0)) (zB BK167.out)) : gb168 ≠ gb167)); clear BK167; clear HB; have BK167 := n0_; have HB := n1_; have BK168 := n2_; have GW168 := n3_; have GE168 := n4_; have NB167_168 := n5_; have NB168_167 := n6_; clear n0_ n1_ n2_ n3_ n4_ n5_ n6_; clear hb hbox hg) | ((with_reducible refine gate_dst (N := 4) rfl ?_); refine box_event ?hg (N := 4) ?hd (cs := #[.int .i64 0, .int .i64 0, .int .i64 0, .int .i64 0]) (t := 28) ?hr ?_; (case hd => rfl); (case hg => rfl); (case hr => first | (go_simp; done) | (go_simp; rfl)); intro gb169 hg w37 hbox hb; have n0_ := Aside0.mk (blk_below (g := gb167) (o := .cells #[.int .i64 a0_0, .int .i64 a0_1] 26 (0, 0)) (zB BK167.out) hb); have n1_ := Aside0.mk (blk_below (g := gb168) (o := .cells #[.int .i64 a1_0, .int .i64 a1_1] 26 (0, 0)) (zB BK168.out) hb); have n2_ := Aside0.mk (below_step zz13 hb); have n3_ := Aside0.mk (hbox); have n4_ := Aside0.mk ((by rw [hg]; exact (below_size zz13) : w.heap.size ≤ gb169)); have n5_ := n4_; have n6_ := Aside0.mk ((by rw [hg]; exact Nat.ne_of_lt (blk_lt (g := gb167) (o := .cells #[.int .i64 a0_0, .int .i64 a0_1] 26 (0, 0)) (zB BK167.out)) : gb167 ≠ gb169)); have n7_ := Aside0.mk ((by rw [hg]; exact Nat.ne_of_gt (blk_lt (g := gb167) (o := .cells #[.int .i64 a0_0, .int .i64 a0_1] 26 (0, 0)) (zB BK167.out)) : gb169 ≠ gb167)); have n8_ := Aside0.mk ((by rw [hg]; exact Nat.ne_of_lt (blk_lt (g := gb168) (o := .cells #[.int .i64 a1_0, .int .i64 a1_1] 26 (0, 0)) (zB BK168.out)) : gb168 ≠ gb169)); have n9_ := Aside0.mk ((by rw [hg]; exact Nat.ne_of_gt (blk_lt (g := gb168) (o := .cells #[.int .i64 a1_0, .int .i64 a1_1] 26 (0, 0)) (zB BK168.out)) : gb169 ≠ gb168)); clear BK167; clear BK168; clear HB; have BK167 := n0_; have BK168 := n1_; have HB := n2_; have BK169 := n3_; have GW169 := n4_; have GE169 := n5_; have NB167_169 := n6_; have NB169_167 := n7_; have NB168_169 := n8_; have NB169_168 := n9_; clear n0_ n1_ n2_ n3_ n4_ n5_ n6_ n7_ n8_ n9_; clear hb hbox hg; have hnb38 := NB167_168.out; have hnc38 := NB168_167.out; have hnb39 := NB167_169.out; have hnc39 := NB169_167.out; obtain ⟨_, _, _, _⟩ := zC2 BK167.out) | ((with_reducible refine gate_callee (f := 48) rfl ?_); refine goesL_ (some 7) rfl rfl Tryz.func48 (by kernel_rfl) rfl #[.agg #[.int .i64 a0_0, .int .i64 a0_1]] rfl zz25 ?_; (with_reducible refine (addr_Good.calls a0_0 a0_1 false _ A3.out).mono ?_); rintro e w41 ⟨rfl, hb⟩; refine ⟨_, rfl, ?_⟩; have n0_ := Aside0.mk (blk_below (g := gb167) (o := .cells #[.int .i64 a0_0, .int .i64 a0_1] 26 (0, 0)) (zB BK167.out) hb); have n1_ := Aside0.mk (blk_below (g := gb168) (o := .cells #[.int .i64 a1_0, .int .i64 a1_1] 26 (0, 0)) (zB BK168.out) hb); have n2_ := Aside0.mk (blk_below (g := gb169) (o := .cells #[.int .i64 0, .int .i64 0, .int .i64 0, .int .i64 0] 28 (0, 0)) (zB BK169.out) hb); have n3_ := Aside0.mk (below_step zz10 hb); clear BK167; clear BK168; clear BK169; clear HB; have BK167 := n0_; have BK168 := n1_; have BK169 := n2_; have HB := n3_; clear n0_ n1_ n2_ n3_; (try clear hb); (try clear hb2); (try clear hk); (try clear hi); have hnb42 := NB169_168.out; have hnc42 := NB168_169.out; obtain ⟨_, _, _, _, _, _, _, _⟩ := zC4 BK169.out))
    refine bodyPost_ret (results_ct rfl _ _ gb169 28 #[.int .i64 0, .int .i64 0, .int .i64 0, .int .i64 0] (0, 0) _ rfl (by (with_reducible repeat (first | refine blk_drewN ?_ _ | refine blk_drew ?_ | refine blk_alloc ?_ _)); refine blk_put (cs := #[.int .i64 0, .int .i64 0, .int .i64 0, .int .i64 0]) ?_ 3 _ rfl; (with_reducible repeat (first | refine blk_drewN ?_ _ | refine blk_drew ?_ | refine blk_alloc ?_ _)); refine blk_put (cs := #[.int .i64 0, .int .i64 0, .int .i64 0, .int .i64 0]) ?_ 2 _ rfl; (with_reducible repeat (first | refine blk_drewN ?_ _ | refine blk_drew ?_ | refine blk_alloc ?_ _)); refine blk_put (cs := #[.int .i64 0, .int .i64 0, .int .i64 0, .int .i64 0]) ?_ 1 _ rfl; (with_reducible repeat (first | refine blk_drewN ?_ _ | refine blk_drew ?_ | refine blk_alloc ?_ _)); refine blk_put (cs := #[.int .i64 0, .int .i64 0, .int .i64 0, .int .i64 0]) ?_ 0 _ rfl; (with_reducible repeat (first | refine blk_drewN ?_ _ | refine blk_drew ?_ | refine blk_alloc ?_ _)); exact BK169.out) Tryz.underlying28 rfl (by kernel_rfl)) rfl ?_
    exact ⟨zz26, zz10⟩
end Go.Proofs.YtnomfbmebafolaaGreatDoor.P

namespace Go.Proofs.YtnomfbmebafolaaGreatDoor.P
open Go.RowKit Go.Proofs.YtnomfbmebafolaaGreatDoorW.PrintWords Go.Proofs.YtnomfbmebafolaaGreatDoorW.PrintLast Go.Proofs.YtnomfbmebafolaaGreatDoorW.PrintMore
open M (I64)
set_option linter.unusedVariables false
set_option linter.unusedSimpArgs false
abbrev adO (r c : Int) : Obj := .cells #[.int .i64 r, .int .i64 c] 26 (0, 0)
theorem zzT {W : World} {g : Nat} {t : TypeId} {v0 v1 : Value} (h : W.heap[g]? = some (.cells #[v0, v1] t (0, 0))) : (W.cell? ⟨g, 0, none⟩ = some v0 ∧ W.cell? ⟨g, 1, none⟩ = some v1) ∧ (W.frozen? ⟨g, 0, none⟩ = false ∧ W.frozen? ⟨g, 1, none⟩ = false) :=
  ⟨⟨(blk_cell h 0).trans rfl, (blk_cell h 1).trans rfl⟩, blk_frozen h 0, blk_frozen h 1⟩
theorem opens_of (g : Nat) (toks : List Tok) (en : Int) (n : Nat) (hn : n ≤ toks.length) (hlen : toks.length ≤ 1000000) (b : Bool) (hb : opensV toks n = b) (W : World) (hp : PS g toks en (n : Int) W) :
    Calls Tryz.prog 136 #[ptr g] W fun e W' => e = .returned (.bool b) ∧ Below W.heap.size W W' := by
  subst hb
  exact opens_calls g toks en n hn hlen W hp
def CellOk (toks : List Tok) (en : Int) (n : Nat) (r c : Int) (n' : Nat) : Prop :=
  ∀ (g : Nat) (W : World), PS g toks en (n : Int) W → Calls Tryz.prog 138 #[ptr g] W fun e W' => e = .returned (.tuple #[.agg #[.int .i64 r, .int .i64 c], .nilIface]) ∧ PS g toks en (n' : Int) W' ∧ Bu g W W'
def CellBad (toks : List Tok) (en : Int) (n : Nat) (p c : Int) (n' : Nat) : Prop :=
  ∀ (g : Nat) (W : World), PS g toks en (n : Int) W → Calls Tryz.prog 138 #[ptr g] W fun e W' => ∃ q, e = .returned (.tuple #[.agg #[.int .i64 0, .int .i64 0], .iface 78 (ptr q)]) ∧ W'.heap[q]? = some (.cells #[.int .i64 p, .int .i64 c] 82 (0, 0)) ∧ W.heap.size ≤ q ∧ PS g toks en (n' : Int) W' ∧ Bu g W W'
theorem CellOk.go {toks : List Tok} {en : Int} {n : Nat} {r c : Int} {n' : Nat} (h : CellOk toks en n r c n') (g : Nat) (W : World) (hp : PS g toks en (n : Int) W) : Calls Tryz.prog 138 #[ptr g] W fun e W' => e = .returned (.tuple #[.agg #[.int .i64 r, .int .i64 c], .nilIface]) ∧ PS g toks en (n' : Int) W' ∧ Bu g W W' := h g W hp
theorem CellBad.go {toks : List Tok} {en : Int} {n : Nat} {p c : Int} {n' : Nat} (h : CellBad toks en n p c n') (g : Nat) (W : World) (hp : PS g toks en (n : Int) W) : Calls Tryz.prog 138 #[ptr g] W fun e W' => ∃ q, e = .returned (.tuple #[.agg #[.int .i64 0, .int .i64 0], .iface 78 (ptr q)]) ∧ W'.heap[q]? = some (.cells #[.int .i64 p, .int .i64 c] 82 (0, 0)) ∧ W.heap.size ≤ q ∧ PS g toks en (n' : Int) W' ∧ Bu g W W' := h g W hp
def cellT (r c : Int) : TN := ⟨2, ⟨0, 0, ⟨#[]⟩⟩, ⟨⟨r, c⟩, ⟨0, 0⟩⟩, ⟨#[]⟩, []⟩
def rangeT (r c x y : Int) : TN := ⟨3, ⟨0, 0, ⟨#[]⟩⟩, ⟨⟨r, c⟩, ⟨x, y⟩⟩, ⟨#[]⟩, []⟩
set_option maxHeartbeats 8000000 in
set_option maxRecDepth 100000 in
theorem name_cbad (toks : List Tok) (en i : Int) (st : ByteArray) (n : Nat) (hnl : n ≤ toks.length) (hlen : toks.length ≤ 1000000) (ho : opensV toks n = true) (n2 : Nat) (p c : Int) (hf : DoesS 137 toks en i st n (.bad p c, n2)) : DoesS 134 toks en i st n (.bad p c, n2) := by
  intro g W hp
  have hu := Tryz.underlying31
  have HG := Lib.hid hp.lt
  have HP0 := Lib.hid (hp.alloc nd0)
  have HB0 := Lib.hid (Bu.refl g (W.alloc nd0))
  have BK0 := Lib.hid (blk_new W nd0)
  have HPW := Lib.hid hp
  clear hp
  have HF := Lib.hid hf
  have HNL := Lib.hid hnl
  have HLEN := Lib.hid hlen
  have HO := Lib.hid ho
  clear hf hnl hlen ho
  go_enter Tryz.func134, Tryz.ntmps134
  go_wp2_with (first | (go_at_call 136; (with_reducible refine (opens_of g toks en n HNL.out HLEN.out _ HO.out _ ?sp).mono ?_); (case sp => exact (Uq12 HP0.out)); rintro e w1 ⟨rfl, hbl⟩; have hb := Bu.of_below (g := g) hbl; have hp := PS.below (g := g) (toks := toks) (en := en) (at_ := (n : Int)) (Uq12 HP0.out) hbl; clear hbl; have HP1 := Lib.hid hp; have HB1 := Lib.hid (Bu.trans (g := g) (a := W.alloc nd0) (Uq14 HB0.out) hb); have BK1 := Lib.hid (hb.blk (k := W.heap.size) (o := nd0) (Uq15 BK0.out) (Nat.ne_of_gt HG.out)); clear hp hb; (try clear c0 c1 c2 c3 c4 c5 c6 c7 c8 c9 z0 z1 z2 z3 z4 z5 z6 z7 z8 z9 hsz); obtain ⟨⟨c0, c1, c2, c3, c4, c5, c6, c7, c8, c9⟩, z0, z1, z2, z3, z4, z5, z6, z7, z8, z9⟩ := z10 BK1.out; have hsz : W.heap.size < w1.heap.size := blk_lt BK1.out; have HZ1 := Lib.hid hsz; obtain ⟨Au, cu, g0, g1, g2, gz, -, -⟩ := (HP1.out).cells; have hgl := HP1.out.lt) | (go_at_call 137; (with_reducible refine (HF.out.bad g _ ?sp).mono ?_); (case sp => exact (Uq12 HP1.out)); rintro e w2 ⟨hp, hb, q, rfl, he, hq⟩; have HE := Lib.hid he; have HQ := Lib.hid (lo (g := g) (o := nd0) (W := W) (Uq14 HB1.out) hq); clear he hq; have HP2 := Lib.hid hp; have HB2 := Lib.hid (Bu.trans (g := g) (a := W.alloc nd0) (Uq14 HB1.out) hb); have BK2 := Lib.hid (hb.blk (k := W.heap.size) (o := nd0) (Uq15 BK1.out) (Nat.ne_of_gt HG.out)); clear hp hb; (try clear c0 c1 c2 c3 c4 c5 c6 c7 c8 c9 z0 z1 z2 z3 z4 z5 z6 z7 z8 z9 hsz); obtain ⟨⟨c0, c1, c2, c3, c4, c5, c6, c7, c8, c9⟩, z0, z1, z2, z3, z4, z5, z6, z7, z8, z9⟩ := z10 BK2.out; have hsz : W.heap.size < w2.heap.size := blk_lt BK2.out; have HZ2 := Lib.hid hsz))
  refine bodyPost_ret (results_ct rfl _ _ W.heap.size 31 _ (0, 0) _ rfl (Uq17 BK2.out) hu rfl (by kernel_rfl)) rfl ?_
  refine ⟨?_, ?_, q, ?_, ?_, Nat.le_of_lt HQ.out⟩
  · exact (Uq12 HP2.out)
  · exact (Uq13 HB2.out)
  · rfl
  · exact (Uq7 HE.out)
set_option maxHeartbeats 8000000 in
set_option maxRecDepth 100000 in
theorem name_cok (toks : List Tok) (en i : Int) (st : ByteArray) (n : Nat) (hnl : n ≤ toks.length) (hlen : toks.length ≤ 1000000) (ho : opensV toks n = true) (n2 : Nat) (a : TN) (hf : DoesS 137 toks en i st n (.ok a, n2)) : DoesS 134 toks en i st n (.ok a, n2) := by
  intro g W hp
  have hu := Tryz.underlying31
  have HG := Lib.hid hp.lt
  have HP0 := Lib.hid (hp.alloc nd0)
  have HB0 := Lib.hid (Bu.refl g (W.alloc nd0))
  have BK0 := Lib.hid (blk_new W nd0)
  have HPW := Lib.hid hp
  clear hp
  have HF := Lib.hid hf
  have HNL := Lib.hid hnl
  have HLEN := Lib.hid hlen
  have HO := Lib.hid ho
  clear hf hnl hlen ho
  go_enter Tryz.func134, Tryz.ntmps134
  go_wp2_with (first | (go_at_call 136; (with_reducible refine (opens_of g toks en n HNL.out HLEN.out _ HO.out _ ?sp).mono ?_); (case sp => exact (Uq12 HP0.out)); rintro e w1 ⟨rfl, hbl⟩; have hb := Bu.of_below (g := g) hbl; have hp := PS.below (g := g) (toks := toks) (en := en) (at_ := (n : Int)) (Uq12 HP0.out) hbl; clear hbl; have HP1 := Lib.hid hp; have HB1 := Lib.hid (Bu.trans (g := g) (a := W.alloc nd0) (Uq14 HB0.out) hb); have BK1 := Lib.hid (hb.blk (k := W.heap.size) (o := nd0) (Uq15 BK0.out) (Nat.ne_of_gt HG.out)); clear hp hb; (try clear c0 c1 c2 c3 c4 c5 c6 c7 c8 c9 z0 z1 z2 z3 z4 z5 z6 z7 z8 z9 hsz); obtain ⟨⟨c0, c1, c2, c3, c4, c5, c6, c7, c8, c9⟩, z0, z1, z2, z3, z4, z5, z6, z7, z8, z9⟩ := z10 BK1.out; have hsz : W.heap.size < w1.heap.size := blk_lt BK1.out; have HZ1 := Lib.hid hsz; obtain ⟨Au, cu, g0, g1, g2, gz, -, -⟩ := (HP1.out).cells; have hgl := HP1.out.lt) | (go_at_call 137; (fail_if_success have := HP2); (with_reducible refine (HF.out.ok g _ ?sp).mono ?_); (case sp => exact (Uq12 HP1.out)); rintro e w2 ⟨hp, hb, v2, rfl, hv⟩; obtain ⟨AA2, kk2, rfl⟩ := Kd.V_slice hv; have HV2 := Lib.hid (Kd.V_mono hv (fun k hk => lo (g := g) (o := nd0) (W := W) (Uq14 HB1.out) hk)); clear hv; have HP2 := Lib.hid hp; have HB2 := Lib.hid (Bu.trans (g := g) (a := W.alloc nd0) (Uq14 HB1.out) hb); have BK2 := Lib.hid (hb.blk (k := W.heap.size) (o := nd0) (Uq15 BK1.out) (Nat.ne_of_gt HG.out)); clear hp hb; (try clear c0 c1 c2 c3 c4 c5 c6 c7 c8 c9 z0 z1 z2 z3 z4 z5 z6 z7 z8 z9 hsz); obtain ⟨⟨c0, c1, c2, c3, c4, c5, c6, c7, c8, c9⟩, z0, z1, z2, z3, z4, z5, z6, z7, z8, z9⟩ := z10 BK2.out; have hsz : W.heap.size < w2.heap.size := blk_lt BK2.out; have HZ2 := Lib.hid hsz))
  refine bodyPost_ret (results_ct rfl _ _ W.heap.size 31 _ (0, 0) _ rfl (Uq17 BK2.out) hu rfl (by kernel_rfl)) rfl ?_
  refine ⟨?_, ?_, (.slice AA2 a.f4.length kk2), ?_, Kd.V_mono ?_ (fun k hk => Nat.le_of_lt hk)⟩
  · exact (Uq12 HP2.out)
  · exact (Uq13 HB2.out)
  · rfl
  · exact (Uq9 HV2.out)
set_option maxHeartbeats 8000000 in
set_option maxRecDepth 100000 in
theorem name_true (toks : List Tok) (en i : Int) (st : ByteArray) (n : Nat) (hnl : n ≤ toks.length) (hlen : toks.length ≤ 1000000) (ho : opensV toks n = false)(s1 : (st.toList == ([84, 82, 85, 69] : List UInt8)) = true) : DoesS 134 toks en i st n (.ok (constT ⟨1, 1, ⟨#[]⟩⟩), n + 1) := by
  intro g W hp
  have hu := Tryz.underlying31
  have HG := Lib.hid hp.lt
  have HP0 := Lib.hid (hp.alloc nd0)
  have HB0 := Lib.hid (Bu.refl g (W.alloc nd0))
  have BK0 := Lib.hid (blk_new W nd0)
  have HPW := Lib.hid hp
  clear hp
  have w1 : IntKind.i64.wrap ((n : Int) + 1) = (n : Int) + 1 := by rw [i64_w, M.wrap64_id (by unfold I64; omega)]
  have hg1 : (g = W.heap.size) = False := eq_false (Nat.ne_of_lt HG.out)
  have hg2 : (W.heap.size = g) = False := eq_false (Nat.ne_of_gt HG.out)
  have HNL := Lib.hid hnl
  have HLEN := Lib.hid hlen
  have HO := Lib.hid ho
  clear hnl hlen ho
  go_enter Tryz.func134, Tryz.ntmps134
  go_wp2_with (first | (go_at_call 136; (with_reducible refine (opens_of g toks en n HNL.out HLEN.out _ HO.out _ ?sp).mono ?_); (case sp => exact (Uq12 HP0.out)); rintro e w1 ⟨rfl, hbl⟩; have hb := Bu.of_below (g := g) hbl; have hp := PS.below (g := g) (toks := toks) (en := en) (at_ := (n : Int)) (Uq12 HP0.out) hbl; clear hbl; have HP1 := Lib.hid hp; have HB1 := Lib.hid (Bu.trans (g := g) (a := W.alloc nd0) (Uq14 HB0.out) hb); have BK1 := Lib.hid (hb.blk (k := W.heap.size) (o := nd0) (Uq15 BK0.out) (Nat.ne_of_gt HG.out)); clear hp hb; (try clear c0 c1 c2 c3 c4 c5 c6 c7 c8 c9 z0 z1 z2 z3 z4 z5 z6 z7 z8 z9 hsz); obtain ⟨⟨c0, c1, c2, c3, c4, c5, c6, c7, c8, c9⟩, z0, z1, z2, z3, z4, z5, z6, z7, z8, z9⟩ := z10 BK1.out; have hsz : W.heap.size < w1.heap.size := blk_lt BK1.out; have HZ1 := Lib.hid hsz; obtain ⟨Au, cu, g0, g1, g2, gz, -, -⟩ := (HP1.out).cells; have hgl := HP1.out.lt))
  refine bodyPost_ret (results_ct rfl _ _ W.heap.size 31 _ (0, 0) _ rfl (Uq16 BK1.out) hu rfl (by kernel_rfl)) rfl ?_
  refine ⟨?_, ?_, .slice none 0 0, ?_, Kd.V_nil _ _ _ _ _⟩
  · show PS g toks en ((n : Int) + 1) _
    exact (Uq12 HP1.out)
  · exact (Uq13 HB1.out)
  · rfl
set_option maxHeartbeats 8000000 in
set_option maxRecDepth 100000 in
theorem name_false (toks : List Tok) (en i : Int) (st : ByteArray) (n : Nat) (hnl : n ≤ toks.length) (hlen : toks.length ≤ 1000000) (ho : opensV toks n = false)(s1 : (st.toList == ([84, 82, 85, 69] : List UInt8)) = false)(s2 : (st.toList == ([70, 65, 76, 83, 69] : List UInt8)) = true) : DoesS 134 toks en i st n (.ok (constT ⟨1, 0, ⟨#[]⟩⟩), n + 1) := by
  intro g W hp
  have hu := Tryz.underlying31
  have HG := Lib.hid hp.lt
  have HP0 := Lib.hid (hp.alloc nd0)
  have HB0 := Lib.hid (Bu.refl g (W.alloc nd0))
  have BK0 := Lib.hid (blk_new W nd0)
  have HPW := Lib.hid hp
  clear hp
  have w1 : IntKind.i64.wrap ((n : Int) + 1) = (n : Int) + 1 := by rw [i64_w, M.wrap64_id (by unfold I64; omega)]
  have hg1 : (g = W.heap.size) = False := eq_false (Nat.ne_of_lt HG.out)
  have hg2 : (W.heap.size = g) = False := eq_false (Nat.ne_of_gt HG.out)
  have HNL := Lib.hid hnl
  have HLEN := Lib.hid hlen
  have HO := Lib.hid ho
  clear hnl hlen ho
  go_enter Tryz.func134, Tryz.ntmps134
  go_wp2_with (first | (go_at_call 136; (with_reducible refine (opens_of g toks en n HNL.out HLEN.out _ HO.out _ ?sp).mono ?_); (case sp => exact (Uq12 HP0.out)); rintro e w1 ⟨rfl, hbl⟩; have hb := Bu.of_below (g := g) hbl; have hp := PS.below (g := g) (toks := toks) (en := en) (at_ := (n : Int)) (Uq12 HP0.out) hbl; clear hbl; have HP1 := Lib.hid hp; have HB1 := Lib.hid (Bu.trans (g := g) (a := W.alloc nd0) (Uq14 HB0.out) hb); have BK1 := Lib.hid (hb.blk (k := W.heap.size) (o := nd0) (Uq15 BK0.out) (Nat.ne_of_gt HG.out)); clear hp hb; (try clear c0 c1 c2 c3 c4 c5 c6 c7 c8 c9 z0 z1 z2 z3 z4 z5 z6 z7 z8 z9 hsz); obtain ⟨⟨c0, c1, c2, c3, c4, c5, c6, c7, c8, c9⟩, z0, z1, z2, z3, z4, z5, z6, z7, z8, z9⟩ := z10 BK1.out; have hsz : W.heap.size < w1.heap.size := blk_lt BK1.out; have HZ1 := Lib.hid hsz; obtain ⟨Au, cu, g0, g1, g2, gz, -, -⟩ := (HP1.out).cells; have hgl := HP1.out.lt))
  refine bodyPost_ret (results_ct rfl _ _ W.heap.size 31 _ (0, 0) _ rfl (Uq16 BK1.out) hu rfl (by kernel_rfl)) rfl ?_
  refine ⟨?_, ?_, .slice none 0 0, ?_, Kd.V_nil _ _ _ _ _⟩
  · show PS g toks en ((n : Int) + 1) _
    exact (Uq12 HP1.out)
  · exact (Uq13 HB1.out)
  · rfl
set_option maxHeartbeats 8000000 in
set_option maxRecDepth 100000 in
theorem name_abad (toks : List Tok) (en i : Int) (st : ByteArray) (n : Nat) (hnl : n ≤ toks.length) (hlen : toks.length ≤ 1000000) (ho : opensV toks n = false)(s1 : (st.toList == ([84, 82, 85, 69] : List UInt8)) = false)(s2 : (st.toList == ([70, 65, 76, 83, 69] : List UInt8)) = false) (n1 : Nat) (p c : Int) (ha : CellBad toks en n p c n1) : DoesS 134 toks en i st n (.bad p c, n1) := by
  intro g W hp
  have hu := Tryz.underlying31
  have HG := Lib.hid hp.lt
  have HP0 := Lib.hid (hp.alloc nd0)
  have HB0 := Lib.hid (Bu.refl g (W.alloc nd0))
  have BK0 := Lib.hid (blk_new W nd0)
  have HPW := Lib.hid hp
  clear hp
  have w1 : IntKind.i64.wrap ((n : Int) + 1) = (n : Int) + 1 := by rw [i64_w, M.wrap64_id (by unfold I64; omega)]
  have hg1 : (g = W.heap.size) = False := eq_false (Nat.ne_of_lt HG.out)
  have hg2 : (W.heap.size = g) = False := eq_false (Nat.ne_of_gt HG.out)
  have HA := Lib.hid ha
  have HNL := Lib.hid hnl
  have HLEN := Lib.hid hlen
  have HO := Lib.hid ho
  clear ha hnl hlen ho
  go_enter Tryz.func134, Tryz.ntmps134
  go_wp2_with (first | (go_at_call 136; (with_reducible refine (opens_of g toks en n HNL.out HLEN.out _ HO.out _ ?sp).mono ?_); (case sp => exact (Uq12 HP0.out)); rintro e w1 ⟨rfl, hbl⟩; have hb := Bu.of_below (g := g) hbl; have hp := PS.below (g := g) (toks := toks) (en := en) (at_ := (n : Int)) (Uq12 HP0.out) hbl; clear hbl; have HP1 := Lib.hid hp; have HB1 := Lib.hid (Bu.trans (g := g) (a := W.alloc nd0) (Uq14 HB0.out) hb); have BK1 := Lib.hid (hb.blk (k := W.heap.size) (o := nd0) (Uq15 BK0.out) (Nat.ne_of_gt HG.out)); clear hp hb; (try clear c0 c1 c2 c3 c4 c5 c6 c7 c8 c9 z0 z1 z2 z3 z4 z5 z6 z7 z8 z9 hsz); obtain ⟨⟨c0, c1, c2, c3, c4, c5, c6, c7, c8, c9⟩, z0, z1, z2, z3, z4, z5, z6, z7, z8, z9⟩ := z10 BK1.out; have hsz : W.heap.size < w1.heap.size := blk_lt BK1.out; have HZ1 := Lib.hid hsz; obtain ⟨Au, cu, g0, g1, g2, gz, -, -⟩ := (HP1.out).cells; have hgl := HP1.out.lt) | (go_at_call 138; (with_reducible refine (HA.out.go g _ ?sp).mono ?_); (case sp => exact (Uq12 HP1.out)); rintro e w2 ⟨q, rfl, he, hq, hp, hb⟩; have HE := Lib.hid he; have HQ := Lib.hid (lo (g := g) (o := nd0) (W := W) (Uq14 HB1.out) hq); clear he hq; have HP2 := Lib.hid hp; have HB2 := Lib.hid (Bu.trans (g := g) (a := W.alloc nd0) (Uq14 HB1.out) hb); have BK2 := Lib.hid (hb.blk (k := W.heap.size) (o := nd0) (Uq15 BK1.out) (Nat.ne_of_gt HG.out)); clear hp hb; (try clear c0 c1 c2 c3 c4 c5 c6 c7 c8 c9 z0 z1 z2 z3 z4 z5 z6 z7 z8 z9 hsz); obtain ⟨⟨c0, c1, c2, c3, c4, c5, c6, c7, c8, c9⟩, z0, z1, z2, z3, z4, z5, z6, z7, z8, z9⟩ := z10 BK2.out; have hsz : W.heap.size < w2.heap.size := blk_lt BK2.out; have HZ2 := Lib.hid hsz))
  refine bodyPost_ret (results_ct rfl _ _ W.heap.size 31 _ (0, 0) _ rfl (Uq17 BK2.out) hu rfl (by kernel_rfl)) rfl ?_
  refine ⟨?_, ?_, q, ?_, ?_, Nat.le_of_lt HQ.out⟩
  · exact (Uq12 HP2.out)
  · exact (Uq13 HB2.out)
  · rfl
  · exact (Uq7 HE.out)
set_option maxHeartbeats 8000000 in
set_option maxRecDepth 100000 in
theorem name_cell (toks : List Tok) (en i : Int) (st : ByteArray) (n : Nat) (hnl : n ≤ toks.length) (hlen : toks.length ≤ 1000000) (ho : opensV toks n = false)(s1 : (st.toList == ([84, 82, 85, 69] : List UInt8)) = false)(s2 : (st.toList == ([70, 65, 76, 83, 69] : List UInt8)) = false) (r c : Int) (n1 : Nat) (ha : CellOk toks en n r c n1) (s : ByteArray) (n2 : Nat) (hs : signV toks n1 [⟨#[58]⟩] = (s, false, n2)) (hn : n1 ≤ toks.length) : DoesS 134 toks en i st n (.ok (cellT r c), n2) := by
  intro g W hp
  have hu := Tryz.underlying31
  have HG := Lib.hid hp.lt
  have HP0 := Lib.hid (hp.alloc nd0)
  have HB0 := Lib.hid (Bu.refl g (W.alloc nd0))
  have BK0 := Lib.hid (blk_new W nd0)
  have HPW := Lib.hid hp
  clear hp
  have w1 : IntKind.i64.wrap ((n : Int) + 1) = (n : Int) + 1 := by rw [i64_w, M.wrap64_id (by unfold I64; omega)]
  have hg1 : (g = W.heap.size) = False := eq_false (Nat.ne_of_lt HG.out)
  have hg2 : (W.heap.size = g) = False := eq_false (Nat.ne_of_gt HG.out)
  have HA := Lib.hid ha
  have HS := Lib.hid hs
  have HN := Lib.hid hn
  have HNL := Lib.hid hnl
  have HLEN := Lib.hid hlen
  have HO := Lib.hid ho
  clear ha hs hn hnl hlen ho
  go_enter Tryz.func134, Tryz.ntmps134
  go_wp2_with (first | (go_at_call 136; (with_reducible refine (opens_of g toks en n HNL.out HLEN.out _ HO.out _ ?sp).mono ?_); (case sp => exact (Uq12 HP0.out)); rintro e w1 ⟨rfl, hbl⟩; have hb := Bu.of_below (g := g) hbl; have hp := PS.below (g := g) (toks := toks) (en := en) (at_ := (n : Int)) (Uq12 HP0.out) hbl; clear hbl; have HP1 := Lib.hid hp; have HB1 := Lib.hid (Bu.trans (g := g) (a := W.alloc nd0) (Uq14 HB0.out) hb); have BK1 := Lib.hid (hb.blk (k := W.heap.size) (o := nd0) (Uq15 BK0.out) (Nat.ne_of_gt HG.out)); clear hp hb; (try clear c0 c1 c2 c3 c4 c5 c6 c7 c8 c9 z0 z1 z2 z3 z4 z5 z6 z7 z8 z9 hsz); obtain ⟨⟨c0, c1, c2, c3, c4, c5, c6, c7, c8, c9⟩, z0, z1, z2, z3, z4, z5, z6, z7, z8, z9⟩ := z10 BK1.out; have hsz : W.heap.size < w1.heap.size := blk_lt BK1.out; have HZ1 := Lib.hid hsz; obtain ⟨Au, cu, g0, g1, g2, gz, -, -⟩ := (HP1.out).cells; have hgl := HP1.out.lt) | (go_at_call 138; (fail_if_success have := HP2); (with_reducible refine (HA.out.go g _ ?sp).mono ?_); (case sp => exact (Uq12 HP1.out)); rintro e w2 ⟨rfl, hp, hb⟩; have HP2 := Lib.hid hp; have HB2 := Lib.hid (Bu.trans (g := g) (a := W.alloc nd0) (Uq14 HB1.out) hb); have BK2 := Lib.hid (hb.blk (k := W.heap.size) (o := nd0) (Uq15 BK1.out) (Nat.ne_of_gt HG.out)); clear hp hb; (try clear c0 c1 c2 c3 c4 c5 c6 c7 c8 c9 z0 z1 z2 z3 z4 z5 z6 z7 z8 z9 hsz); obtain ⟨⟨c0, c1, c2, c3, c4, c5, c6, c7, c8, c9⟩, z0, z1, z2, z3, z4, z5, z6, z7, z8, z9⟩ := z10 BK2.out; have hsz : W.heap.size < w2.heap.size := blk_lt BK2.out; have HZ2 := Lib.hid hsz) | (go_at_call 75; (with_reducible refine (sign_of g toks en _ HN.out _ _ _ _ _ _ _ HS.out ?s1 HLEN.out _ ?sp ?s2 ?s3 ?s4).mono ?_); (case sp => exact (Uq12 HP2.out)); (case s1 => decide); (case s2 => exact strC_new (by simp) rfl (by decide)); (case s3 => decide); (case s4 => rfl); rintro e w3 ⟨rfl, hp, hb⟩; have HP3 := Lib.hid hp; have HB3 := Lib.hid (Bu.trans (g := g) (a := W.alloc nd0) (Uq14 HB2.out) hb); have BK3 := Lib.hid (hb.blk (k := W.heap.size) (o := nd0) (Uq15 BK2.out) (Nat.ne_of_gt HG.out)); have BC := Lib.hid (hb.blk (k := w2.heap.size) (o := adO r c) (Uq15 BK2.out) (Nat.ne_of_gt (Nat.lt_trans HG.out HZ2.out))); clear hp hb; (try clear c0 c1 c2 c3 c4 c5 c6 c7 c8 c9 z0 z1 z2 z3 z4 z5 z6 z7 z8 z9 hsz); obtain ⟨⟨c0, c1, c2, c3, c4, c5, c6, c7, c8, c9⟩, z0, z1, z2, z3, z4, z5, z6, z7, z8, z9⟩ := z10 BK3.out; have hsz : W.heap.size < w3.heap.size := blk_lt BK3.out; have HZ3 := Lib.hid hsz; obtain ⟨⟨d0_0, d0_1⟩, -⟩ := zzT BC.out; have hd0_ := blk_lt BC.out))
  refine bodyPost_ret (results_ct rfl _ _ W.heap.size 31 _ (0, 0) _ rfl (by with_reducible repeat (first | exact put10_blk BK3.out _ _ _ _ _ _ _ _ _ _ | refine put10_nd ?_ _ _ _ _ _ _ _ _ _ _ | exact BK3.out | exact blk_new _ _ | refine blk_alloc ?_ _ | refine blk_drewN ?_ _ | refine blk_drew ?_ | refine blk_set ?_ (Nat.ne_of_gt HG.out) _)) hu rfl (by kernel_rfl)) rfl ?_
  refine ⟨?_, ?_, .slice none 0 0, ?_, Kd.V_nil _ _ _ _ _⟩
  · exact (Uq12 HP3.out)
  · exact (Uq13 HB3.out)
  · rfl
set_option maxHeartbeats 8000000 in
set_option maxRecDepth 100000 in
theorem name_bbad (toks : List Tok) (en i : Int) (st : ByteArray) (n : Nat) (hnl : n ≤ toks.length) (hlen : toks.length ≤ 1000000) (ho : opensV toks n = false)(s1 : (st.toList == ([84, 82, 85, 69] : List UInt8)) = false)(s2 : (st.toList == ([70, 65, 76, 83, 69] : List UInt8)) = false) (r c : Int) (n1 : Nat) (ha : CellOk toks en n r c n1) (s : ByteArray) (n2 : Nat) (hs : signV toks n1 [⟨#[58]⟩] = (s, true, n2)) (hn : n1 ≤ toks.length) (n3 : Nat) (p d : Int) (hbb : CellBad toks en n2 p d n3) : DoesS 134 toks en i st n (.bad p d, n3) := by
  intro g W hp
  have hu := Tryz.underlying31
  have HG := Lib.hid hp.lt
  have HP0 := Lib.hid (hp.alloc nd0)
  have HB0 := Lib.hid (Bu.refl g (W.alloc nd0))
  have BK0 := Lib.hid (blk_new W nd0)
  have HPW := Lib.hid hp
  clear hp
  have w1 : IntKind.i64.wrap ((n : Int) + 1) = (n : Int) + 1 := by rw [i64_w, M.wrap64_id (by unfold I64; omega)]
  have hg1 : (g = W.heap.size) = False := eq_false (Nat.ne_of_lt HG.out)
  have hg2 : (W.heap.size = g) = False := eq_false (Nat.ne_of_gt HG.out)
  have HA := Lib.hid ha
  have HS := Lib.hid hs
  have HN := Lib.hid hn
  have HX := Lib.hid hbb
  have HNL := Lib.hid hnl
  have HLEN := Lib.hid hlen
  have HO := Lib.hid ho
  clear ha hs hn hbb hnl hlen ho
  go_enter Tryz.func134, Tryz.ntmps134
  go_wp2_with (first | (go_at_call 136; (with_reducible refine (opens_of g toks en n HNL.out HLEN.out _ HO.out _ ?sp).mono ?_); (case sp => exact (Uq12 HP0.out)); rintro e w1 ⟨rfl, hbl⟩; have hb := Bu.of_below (g := g) hbl; have hp := PS.below (g := g) (toks := toks) (en := en) (at_ := (n : Int)) (Uq12 HP0.out) hbl; clear hbl; have HP1 := Lib.hid hp; have HB1 := Lib.hid (Bu.trans (g := g) (a := W.alloc nd0) (Uq14 HB0.out) hb); have BK1 := Lib.hid (hb.blk (k := W.heap.size) (o := nd0) (Uq15 BK0.out) (Nat.ne_of_gt HG.out)); clear hp hb; (try clear c0 c1 c2 c3 c4 c5 c6 c7 c8 c9 z0 z1 z2 z3 z4 z5 z6 z7 z8 z9 hsz); obtain ⟨⟨c0, c1, c2, c3, c4, c5, c6, c7, c8, c9⟩, z0, z1, z2, z3, z4, z5, z6, z7, z8, z9⟩ := z10 BK1.out; have hsz : W.heap.size < w1.heap.size := blk_lt BK1.out; have HZ1 := Lib.hid hsz; obtain ⟨Au, cu, g0, g1, g2, gz, -, -⟩ := (HP1.out).cells; have hgl := HP1.out.lt) | (go_at_call 138; (fail_if_success have := HP2); (with_reducible refine (HA.out.go g _ ?sp).mono ?_); (case sp => exact (Uq12 HP1.out)); rintro e w2 ⟨rfl, hp, hb⟩; have HP2 := Lib.hid hp; have HB2 := Lib.hid (Bu.trans (g := g) (a := W.alloc nd0) (Uq14 HB1.out) hb); have BK2 := Lib.hid (hb.blk (k := W.heap.size) (o := nd0) (Uq15 BK1.out) (Nat.ne_of_gt HG.out)); clear hp hb; (try clear c0 c1 c2 c3 c4 c5 c6 c7 c8 c9 z0 z1 z2 z3 z4 z5 z6 z7 z8 z9 hsz); obtain ⟨⟨c0, c1, c2, c3, c4, c5, c6, c7, c8, c9⟩, z0, z1, z2, z3, z4, z5, z6, z7, z8, z9⟩ := z10 BK2.out; have hsz : W.heap.size < w2.heap.size := blk_lt BK2.out; have HZ2 := Lib.hid hsz) | (go_at_call 75; (with_reducible refine (sign_of g toks en _ HN.out _ _ _ _ _ _ _ HS.out ?s1 HLEN.out _ ?sp ?s2 ?s3 ?s4).mono ?_); (case sp => exact (Uq12 HP2.out)); (case s1 => decide); (case s2 => exact strC_new (by simp) rfl (by decide)); (case s3 => decide); (case s4 => rfl); rintro e w3 ⟨rfl, hp, hb⟩; have HP3 := Lib.hid hp; have HB3 := Lib.hid (Bu.trans (g := g) (a := W.alloc nd0) (Uq14 HB2.out) hb); have BK3 := Lib.hid (hb.blk (k := W.heap.size) (o := nd0) (Uq15 BK2.out) (Nat.ne_of_gt HG.out)); have BC := Lib.hid (hb.blk (k := w2.heap.size) (o := adO r c) (Uq15 BK2.out) (Nat.ne_of_gt (Nat.lt_trans HG.out HZ2.out))); clear hp hb; (try clear c0 c1 c2 c3 c4 c5 c6 c7 c8 c9 z0 z1 z2 z3 z4 z5 z6 z7 z8 z9 hsz); obtain ⟨⟨c0, c1, c2, c3, c4, c5, c6, c7, c8, c9⟩, z0, z1, z2, z3, z4, z5, z6, z7, z8, z9⟩ := z10 BK3.out; have hsz : W.heap.size < w3.heap.size := blk_lt BK3.out; have HZ3 := Lib.hid hsz; obtain ⟨⟨d0_0, d0_1⟩, -⟩ := zzT BC.out; have hd0_ := blk_lt BC.out) | (go_at_call 138; (with_reducible refine (HX.out.go g _ ?sp).mono ?_); (case sp => exact (Uq12 HP3.out)); rintro e w4 ⟨q, rfl, he, hq, hp, hb⟩; have HE := Lib.hid he; have HQ := Lib.hid (lo (g := g) (o := nd0) (W := W) (Uq14 HB3.out) hq); clear he hq; have HP4 := Lib.hid hp; have HB4 := Lib.hid (Bu.trans (g := g) (a := W.alloc nd0) (Uq14 HB3.out) hb); have BK4 := Lib.hid (hb.blk (k := W.heap.size) (o := nd0) (Uq15 BK3.out) (Nat.ne_of_gt HG.out)); clear hp hb; (try clear c0 c1 c2 c3 c4 c5 c6 c7 c8 c9 z0 z1 z2 z3 z4 z5 z6 z7 z8 z9 hsz); obtain ⟨⟨c0, c1, c2, c3, c4, c5, c6, c7, c8, c9⟩, z0, z1, z2, z3, z4, z5, z6, z7, z8, z9⟩ := z10 BK4.out; have hsz : W.heap.size < w4.heap.size := blk_lt BK4.out; have HZ4 := Lib.hid hsz))
  refine bodyPost_ret (results_ct rfl _ _ W.heap.size 31 _ (0, 0) _ rfl (by with_reducible repeat (first | exact put10_blk BK4.out _ _ _ _ _ _ _ _ _ _ | refine put10_nd ?_ _ _ _ _ _ _ _ _ _ _ | exact BK4.out | exact blk_new _ _ | refine blk_alloc ?_ _ | refine blk_drewN ?_ _ | refine blk_drew ?_ | refine blk_set ?_ (Nat.ne_of_gt HG.out) _)) hu rfl (by kernel_rfl)) rfl ?_
  refine ⟨?_, ?_, q, ?_, ?_, Nat.le_of_lt HQ.out⟩
  · exact (Uq12 HP4.out)
  · exact (Uq13 HB4.out)
  · rfl
  · exact (Uq7 HE.out)
set_option maxHeartbeats 8000000 in
set_option maxRecDepth 100000 in
theorem name_range (toks : List Tok) (en i : Int) (st : ByteArray) (n : Nat) (hnl : n ≤ toks.length) (hlen : toks.length ≤ 1000000) (ho : opensV toks n = false)(s1 : (st.toList == ([84, 82, 85, 69] : List UInt8)) = false)(s2 : (st.toList == ([70, 65, 76, 83, 69] : List UInt8)) = false) (r c : Int) (n1 : Nat) (ha : CellOk toks en n r c n1) (s : ByteArray) (n2 : Nat) (hs : signV toks n1 [⟨#[58]⟩] = (s, true, n2)) (hn : n1 ≤ toks.length) (n3 : Nat) (x y : Int) (hbb : CellOk toks en n2 x y n3) (u1 u2 u3 u4 : Int) (ub : Bool) (hmd : addr_Made.f r c x y = some (u1, u2, u3, u4, ub)) : DoesS 134 toks en i st n (.ok (rangeT u1 u2 u3 u4), n3) := by
  intro g W hp
  have hu := Tryz.underlying31
  have HG := Lib.hid hp.lt
  have HP0 := Lib.hid (hp.alloc nd0)
  have HB0 := Lib.hid (Bu.refl g (W.alloc nd0))
  have BK0 := Lib.hid (blk_new W nd0)
  have HPW := Lib.hid hp
  clear hp
  have w1 : IntKind.i64.wrap ((n : Int) + 1) = (n : Int) + 1 := by rw [i64_w, M.wrap64_id (by unfold I64; omega)]
  have hg1 : (g = W.heap.size) = False := eq_false (Nat.ne_of_lt HG.out)
  have hg2 : (W.heap.size = g) = False := eq_false (Nat.ne_of_gt HG.out)
  have HA := Lib.hid ha
  have HS := Lib.hid hs
  have HN := Lib.hid hn
  have HX := Lib.hid hbb
  have HMD := Lib.hid hmd
  have HNL := Lib.hid hnl
  have HLEN := Lib.hid hlen
  have HO := Lib.hid ho
  clear ha hs hn hbb hmd hnl hlen ho
  go_enter Tryz.func134, Tryz.ntmps134
  go_wp2_with (first | (go_at_call 136; (with_reducible refine (opens_of g toks en n HNL.out HLEN.out _ HO.out _ ?sp).mono ?_); (case sp => exact (Uq12 HP0.out)); rintro e w1 ⟨rfl, hbl⟩; have hb := Bu.of_below (g := g) hbl; have hp := PS.below (g := g) (toks := toks) (en := en) (at_ := (n : Int)) (Uq12 HP0.out) hbl; clear hbl; have HP1 := Lib.hid hp; have HB1 := Lib.hid (Bu.trans (g := g) (a := W.alloc nd0) (Uq14 HB0.out) hb); have BK1 := Lib.hid (hb.blk (k := W.heap.size) (o := nd0) (Uq15 BK0.out) (Nat.ne_of_gt HG.out)); clear hp hb; (try clear c0 c1 c2 c3 c4 c5 c6 c7 c8 c9 z0 z1 z2 z3 z4 z5 z6 z7 z8 z9 hsz); obtain ⟨⟨c0, c1, c2, c3, c4, c5, c6, c7, c8, c9⟩, z0, z1, z2, z3, z4, z5, z6, z7, z8, z9⟩ := z10 BK1.out; have hsz : W.heap.size < w1.heap.size := blk_lt BK1.out; have HZ1 := Lib.hid hsz; obtain ⟨Au, cu, g0, g1, g2, gz, -, -⟩ := (HP1.out).cells; have hgl := HP1.out.lt) | (go_at_call 138; (fail_if_success have := HP2); (with_reducible refine (HA.out.go g _ ?sp).mono ?_); (case sp => exact (Uq12 HP1.out)); rintro e w2 ⟨rfl, hp, hb⟩; have HP2 := Lib.hid hp; have HB2 := Lib.hid (Bu.trans (g := g) (a := W.alloc nd0) (Uq14 HB1.out) hb); have BK2 := Lib.hid (hb.blk (k := W.heap.size) (o := nd0) (Uq15 BK1.out) (Nat.ne_of_gt HG.out)); clear hp hb; (try clear c0 c1 c2 c3 c4 c5 c6 c7 c8 c9 z0 z1 z2 z3 z4 z5 z6 z7 z8 z9 hsz); obtain ⟨⟨c0, c1, c2, c3, c4, c5, c6, c7, c8, c9⟩, z0, z1, z2, z3, z4, z5, z6, z7, z8, z9⟩ := z10 BK2.out; have hsz : W.heap.size < w2.heap.size := blk_lt BK2.out; have HZ2 := Lib.hid hsz) | (go_at_call 75; (with_reducible refine (sign_of g toks en _ HN.out _ _ _ _ _ _ _ HS.out ?s1 HLEN.out _ ?sp ?s2 ?s3 ?s4).mono ?_); (case sp => exact (Uq12 HP2.out)); (case s1 => decide); (case s2 => exact strC_new (by simp) rfl (by decide)); (case s3 => decide); (case s4 => rfl); rintro e w3 ⟨rfl, hp, hb⟩; have HP3 := Lib.hid hp; have HB3 := Lib.hid (Bu.trans (g := g) (a := W.alloc nd0) (Uq14 HB2.out) hb); have BK3 := Lib.hid (hb.blk (k := W.heap.size) (o := nd0) (Uq15 BK2.out) (Nat.ne_of_gt HG.out)); have BC := Lib.hid (hb.blk (k := w2.heap.size) (o := adO r c) (Uq15 BK2.out) (Nat.ne_of_gt (Nat.lt_trans HG.out HZ2.out))); clear hp hb; (try clear c0 c1 c2 c3 c4 c5 c6 c7 c8 c9 z0 z1 z2 z3 z4 z5 z6 z7 z8 z9 hsz); obtain ⟨⟨c0, c1, c2, c3, c4, c5, c6, c7, c8, c9⟩, z0, z1, z2, z3, z4, z5, z6, z7, z8, z9⟩ := z10 BK3.out; have hsz : W.heap.size < w3.heap.size := blk_lt BK3.out; have HZ3 := Lib.hid hsz; obtain ⟨⟨d0_0, d0_1⟩, -⟩ := zzT BC.out; have hd0_ := blk_lt BC.out) | (go_at_call 138; (fail_if_success have := HP4); (with_reducible refine (HX.out.go g _ ?sp).mono ?_); (case sp => exact (Uq12 HP3.out)); rintro e w4 ⟨rfl, hp, hb⟩; have HP4 := Lib.hid hp; have HB4 := Lib.hid (Bu.trans (g := g) (a := W.alloc nd0) (Uq14 HB3.out) hb); have BK4 := Lib.hid (hb.blk (k := W.heap.size) (o := nd0) (Uq15 BK3.out) (Nat.ne_of_gt HG.out)); have BC2 := Lib.hid (hb.blk (k := w2.heap.size) (o := adO r c) (Uq15 BC.out) (Nat.ne_of_gt (Nat.lt_trans HG.out HZ2.out))); clear hp hb; (try clear c0 c1 c2 c3 c4 c5 c6 c7 c8 c9 z0 z1 z2 z3 z4 z5 z6 z7 z8 z9 hsz); obtain ⟨⟨c0, c1, c2, c3, c4, c5, c6, c7, c8, c9⟩, z0, z1, z2, z3, z4, z5, z6, z7, z8, z9⟩ := z10 BK4.out; have hsz : W.heap.size < w4.heap.size := blk_lt BK4.out; have HZ4 := Lib.hid hsz; obtain ⟨⟨d0_0, d0_1⟩, -⟩ := zzT BC2.out; have hd0_ := blk_lt BC2.out) | (go_at_call 139; (with_reducible refine (addr_Made.calls _ _ _ _ _ _ _ _ _ _ HMD.out).mono ?_); rintro e w5 ⟨rfl, hbl⟩; have hb := Bu.of_below (g := g) hbl; have hp := PS.below (g := g) (toks := toks) (en := en) (at_ := (n3 : Int)) (Uq12 HP4.out) hbl; clear hbl; have HP5 := Lib.hid hp; have HB5 := Lib.hid (Bu.trans (g := g) (a := W.alloc nd0) (Uq14 HB4.out) hb); have BK5 := Lib.hid (hb.blk (k := W.heap.size) (o := nd0) (Uq15 BK4.out) (Nat.ne_of_gt HG.out)); clear hp hb; (try clear c0 c1 c2 c3 c4 c5 c6 c7 c8 c9 z0 z1 z2 z3 z4 z5 z6 z7 z8 z9 hsz); obtain ⟨⟨c0, c1, c2, c3, c4, c5, c6, c7, c8, c9⟩, z0, z1, z2, z3, z4, z5, z6, z7, z8, z9⟩ := z10 BK5.out; have hsz : W.heap.size < w5.heap.size := blk_lt BK5.out; have HZ5 := Lib.hid hsz))
  refine bodyPost_ret (results_ct rfl _ _ W.heap.size 31 _ (0, 0) _ rfl (by with_reducible repeat (first | exact put10_blk BK5.out _ _ _ _ _ _ _ _ _ _ | refine put10_nd ?_ _ _ _ _ _ _ _ _ _ _ | exact BK5.out | exact blk_new _ _ | refine blk_alloc ?_ _ | refine blk_drewN ?_ _ | refine blk_drew ?_ | refine blk_set ?_ (Nat.ne_of_gt HG.out) _)) hu rfl (by kernel_rfl)) rfl ?_
  refine ⟨?_, ?_, .slice none 0 0, ?_, Kd.V_nil _ _ _ _ _⟩
  · exact (Uq12 HP5.out)
  · exact (Uq13 HB5.out)
  · rfl
end Go.Proofs.YtnomfbmebafolaaGreatDoor.P

namespace Go.Proofs.YtnomfbmebafolaaGreatDoor.P
open Go.RowKit Go.Proofs.YtnomfbmebafolaaGreatDoorW.PrintWords Go.Proofs.YtnomfbmebafolaaGreatDoorW.PrintLast Go.Proofs.YtnomfbmebafolaaGreatDoorW.PrintMore
attribute [local go_sem] max2_int min2_int max_two min_two max_three min_three max_four min_four   -- for this text's walks alone
set_option linter.unusedVariables false
set_option linter.unusedSimpArgs false
def addr_Name.f (a0_0 : Int) (a0_1 : Int) : Option (ByteArray) := (addr_Good.f a0_0 a0_1).bind fun t114 => (if t114 = true then (if a0_1 > 26 then ((some (([(wrap64 (65 + (Int.tmod (wrap64 (a0_1 - 1)) 26))) % 256] : List Int) : List Int)).bind fun y115 => (if 1 + (strOfNums y115).size ≤ 9223372036854775807 then ((strconv_Itoa.f a0_0).bind fun t118 => (if ((⟨#[65]⟩ : ByteArray) ++ (strOfNums y115)).size + t118.size ≤ 9223372036854775807 then (some (((⟨#[65]⟩ : ByteArray) ++ (strOfNums y115)) ++ t118)) else (none))) else (none))) else ((some (([(wrap64 (65 + (Int.tmod (wrap64 (a0_1 - 1)) 26))) % 256] : List Int) : List Int)).bind fun y119 => (if 0 + (strOfNums y119).size ≤ 9223372036854775807 then ((strconv_Itoa.f a0_0).bind fun t122 => (if ((⟨#[]⟩ : ByteArray) ++ (strOfNums y119)).size + t122.size ≤ 9223372036854775807 then (some (((⟨#[]⟩ : ByteArray) ++ (strOfNums y119)) ++ t122)) else (none))) else (none)))) else (some (⟨#[]⟩ : ByteArray)))
def addr_Name.T6 : Bool × List (List Nat × List Nat) := (true, [([], []), ([], []), ([1], [1]), ([2], [2]), ([3], [3]), ([4], [4]), ([5], [5]), ([6], [6]), ([7], [7]), ([0, 8], [0, 8]), ([], []), ([10], [10]), ([11], [11]), ([9, 12], [9, 12]), ([13, 12, 0, 1, 2, 3, 4, 5, 6, 7, 8, 9, 10, 11, 12, 13], [13])])
def addr_Name.B6 : List Nat := [0, 0, 2, 6, 14, 30, 62, 126, 254, 511, 0, 1024, 3072, 8191, 16383]
theorem addr_Name.tab6 : rtab .any (opsOf Tryz.f29 6) = addr_Name.T6 := by kernel_rfl
theorem addr_Name.bits6 : waitsOk addr_Name.T6.2 addr_Name.B6 = true := by kernel_rfl
set_option maxHeartbeats 8000000 in
set_option maxRecDepth 100000 in
theorem addr_Name.calls (a0_0 : Int) (a0_1 : Int) (r : ByteArray) (w : World) (hG : G1 w) (h : addr_Name.f a0_0 a0_1 = some r) :
    Calls Tryz.prog 29 #[.agg #[.int .i64 a0_0, .int .i64 a0_1]] w fun e w' => e = .returned (.string r) ∧ Below w.heap.size w w' := by
  have hu26 := Tryz.underlying26
  have HB := Aside0.mk (Below.refl w.heap.size w)
  have H : ((addr_Good.f a0_0 a0_1).bind fun t114 => (if t114 = true then (if a0_1 > 26 then ((some (([(wrap64 (65 + (Int.tmod (wrap64 (a0_1 - 1)) 26))) % 256] : List Int) : List Int)).bind fun y115 => (if 1 + (strOfNums y115).size ≤ 9223372036854775807 then ((strconv_Itoa.f a0_0).bind fun t118 => (if ((⟨#[65]⟩ : ByteArray) ++ (strOfNums y115)).size + t118.size ≤ 9223372036854775807 then (some (((⟨#[65]⟩ : ByteArray) ++ (strOfNums y115)) ++ t118)) else (none))) else (none))) else ((some (([(wrap64 (65 + (Int.tmod (wrap64 (a0_1 - 1)) 26))) % 256] : List Int) : List Int)).bind fun y119 => (if 0 + (strOfNums y119).size ≤ 9223372036854775807 then ((strconv_Itoa.f a0_0).bind fun t122 => (if ((⟨#[]⟩ : ByteArray) ++ (strOfNums y119)).size + t122.size ≤ 9223372036854775807 then (some (((⟨#[]⟩ : ByteArray) ++ (strOfNums y119)) ++ t122)) else (none))) else (none)))) else (some (⟨#[]⟩ : ByteArray)))) = some r := h
  clear h
  replace H := Option.bind_eq_some_iff.mp H
  obtain ⟨t114, A20, H⟩ := H
  replace H : (if t114 = true then (if a0_1 > 26 then ((some (([(wrap64 (65 + (Int.tmod (wrap64 (a0_1 - 1)) 26))) % 256] : List Int) : List Int)).bind fun y115 => (if 1 + (strOfNums y115).size ≤ 9223372036854775807 then ((strconv_Itoa.f a0_0).bind fun t118 => (if ((⟨#[65]⟩ : ByteArray) ++ (strOfNums y115)).size + t118.size ≤ 9223372036854775807 then (some (((⟨#[65]⟩ : ByteArray) ++ (strOfNums y115)) ++ t118)) else (none))) else (none))) else ((some (([(wrap64 (65 + (Int.tmod (wrap64 (a0_1 - 1)) 26))) % 256] : List Int) : List Int)).bind fun y119 => (if 0 + (strOfNums y119).size ≤ 9223372036854775807 then ((strconv_Itoa.f a0_0).bind fun t122 => (if ((⟨#[]⟩ : ByteArray) ++ (strOfNums y119)).size + t122.size ≤ 9223372036854775807 then (some (((⟨#[]⟩ : ByteArray) ++ (strOfNums y119)) ++ t122)) else (none))) else (none)))) else (some (⟨#[]⟩ : ByteArray))) = some r := H
  have A2 := Aside0.mk A20
  clear A20
  by_cases c3 : t114 = true
  · subst c3
    have H1 : (if a0_1 > 26 then ((some (([(wrap64 (65 + (Int.tmod (wrap64 (a0_1 - 1)) 26))) % 256] : List Int) : List Int)).bind fun y115 => (if 1 + (strOfNums y115).size ≤ 9223372036854775807 then ((strconv_Itoa.f a0_0).bind fun t118 => (if ((⟨#[65]⟩ : ByteArray) ++ (strOfNums y115)).size + t118.size ≤ 9223372036854775807 then (some (((⟨#[65]⟩ : ByteArray) ++ (strOfNums y115)) ++ t118)) else (none))) else (none))) else ((some (([(wrap64 (65 + (Int.tmod (wrap64 (a0_1 - 1)) 26))) % 256] : List Int) : List Int)).bind fun y119 => (if 0 + (strOfNums y119).size ≤ 9223372036854775807 then ((strconv_Itoa.f a0_0).bind fun t122 => (if ((⟨#[]⟩ : ByteArray) ++ (strOfNums y119)).size + t122.size ≤ 9223372036854775807 then (some (((⟨#[]⟩ : ByteArray) ++ (strOfNums y119)) ++ t122)) else (none))) else (none)))) = some r := by rw [if_pos rfl] at H; exact H
    clear H
    have H := H1
    clear H1
    by_cases c4 : a0_1 > 26
    · rw [if_pos c4] at H
      have c4b0 : decide (26 < a0_1) = true := decide_eq_true c4
      clear c4
      obtain ⟨y115, hy115⟩ : ∃ y_ : List Int, y_ = (([(wrap64 (65 + (Int.tmod (wrap64 (a0_1 - 1)) 26))) % 256] : List Int)) := ⟨_, rfl⟩
      replace H : (if 1 + (strOfNums y115).size ≤ 9223372036854775807 then ((strconv_Itoa.f a0_0).bind fun t118 => (if ((⟨#[65]⟩ : ByteArray) ++ (strOfNums y115)).size + t118.size ≤ 9223372036854775807 then (some (((⟨#[65]⟩ : ByteArray) ++ (strOfNums y115)) ++ t118)) else (none))) else (none)) = some r := by first | (rw [hy115]; with_reducible exact H) | (have H2_ := (Option.bind_some _ _).symm.trans H; rw [hy115]; with_reducible exact H2_) | (have H2_ := (Option.bind_some _ _).symm.trans H; with_reducible exact H2_) | with_reducible exact H | (rw [hy115]; exact H) | exact H
      have Ny115 := Aside0.mk hy115
      clear hy115
      by_cases c5 : 1 + (strOfNums y115).size ≤ 9223372036854775807
      · rw [if_pos c5] at H
        have c5b0 := eq_true c5
        have c5b1 : decide (1 + (strOfNums y115).size ≤ 9223372036854775807) = true := decide_eq_true c5
        try have c5b2 : (9223372036854775807 < 1 + (strOfNums y115).size) = False := eq_false (Nat.not_lt.2 c5)
        replace H := Option.bind_eq_some_iff.mp H
        obtain ⟨t118, A60, H⟩ := H
        replace H : (if ((⟨#[65]⟩ : ByteArray) ++ (strOfNums y115)).size + t118.size ≤ 9223372036854775807 then (some (((⟨#[65]⟩ : ByteArray) ++ (strOfNums y115)) ++ t118)) else (none)) = some r := H
        have A6 := Aside0.mk A60
        clear A60
        by_cases c7 : ((⟨#[65]⟩ : ByteArray) ++ (strOfNums y115)).size + t118.size ≤ 9223372036854775807
        · rw [if_pos c7] at H
          have c7b0 := eq_true c7
          have c7b1 : decide (((⟨#[65]⟩ : ByteArray) ++ (strOfNums y115)).size + t118.size ≤ 9223372036854775807) = true := decide_eq_true c7
          try have c7b2 : (9223372036854775807 < ((⟨#[65]⟩ : ByteArray) ++ (strOfNums y115)).size + t118.size) = False := eq_false (Nat.not_lt.2 c7)
          have c7x1 : (9223372036854775807 < 1 + (strOfNums y115).size + t118.size) = False := eq_false (by have z_ := c7; rw [ByteArray.size_append] at z_; have z2_ : (⟨#[65]⟩ : ByteArray).size = 1 := rfl; omega)
          obtain rfl := Option.some.inj H
          go_enter Tryz.func29, Tryz.ntmps29
          try go_wp2_with (first | ((with_reducible refine gate_dst (N := 1) rfl ?_); refine box_event ?hg (N := 1) ?hd (cs := #[.int .i64 a0_0, .int .i64 a0_1]) (t := 26) ?hr ?_; (case hd => rfl); (case hg => rfl); (case hr => first | (go_simp; done) | (go_simp; rfl)); intro gb113 hg w8 hbox hb; have n0_ := Aside0.mk (below_step zz1 hb); have n1_ := Aside0.mk (hbox); have n2_ := Aside0.mk ((by rw [hg]; exact (below_size zz1) : w.heap.size ≤ gb113)); have n3_ := n2_; clear HB; have HB := n0_; have BK113 := n1_; have GW113 := n2_; have GE113 := n3_; clear n0_ n1_ n2_ n3_; clear hb hbox hg; obtain ⟨_, _, _, _⟩ := zC2 BK113.out) | ((with_reducible refine gate_callee (f := 48) rfl ?_); refine goesL_ (some 5) rfl rfl Tryz.func48 (by kernel_rfl) rfl #[.agg #[.int .i64 a0_0, .int .i64 a0_1]] rfl zz25 ?_; (with_reducible refine (addr_Good.calls a0_0 a0_1 true _ A2.out).mono ?_); rintro e w10 ⟨rfl, hb⟩; refine ⟨_, rfl, ?_⟩; have n0_ := Aside0.mk (blk_below (g := gb113) (o := .cells #[.int .i64 a0_0, .int .i64 a0_1] 26 (0, 0)) (zB BK113.out) hb); have n1_ := Aside0.mk (below_step zz4 hb); clear BK113; clear HB; have BK113 := n0_; have HB := n1_; clear n0_ n1_; (try clear hb); (try clear hb2); (try clear hk); (try clear hi); obtain ⟨_, _, _, _⟩ := zC2 BK113.out))
          have n0_ := Aside0.mk (blk_drew BK113.out)
          have n1_ := Aside0.mk (below_drew1 HB.out)
          clear BK113
          clear HB
          have BK113 := n0_
          have HB := n1_
          clear n0_ n1_
          refine start_ (n := 15) (S := fun w' => w'.cell? ⟨gb113, 0, none⟩ = some (.int .i64 a0_0) ∧ w'.cell? ⟨gb113, 1, none⟩ = some (.int .i64 a0_1)) (ds := []) #[false, false, false, false, false, false, false, false, false, false, false, false, false, false, false] (by kernel_rfl) rfl rfl ⟨(blk_cell BK113.out 0).trans rfl, (blk_cell BK113.out 1).trans rfl⟩ (fun hHeld => ?_); refine with_tabW addr_Name.tab6 addr_Name.bits6 (fun HT_ HW_ => ?_)
          generalize w10.drew = w12 at BK113 HB hHeld ⊢
          refine pure_ (i := 0) (N := some 10) (v := ?_) (a' := ?_) #[true, false, false, false, false, false, false, false, false, false, false, false, false, false, false] rfl rfl (any_of HT_.out (by kernel_rfl)) (fun _ _ _ h => h) (Or.inl ⟨by rfl, ?_⟩) ?_ ?_
          rotate_left
          · intro w'
            go_simp
            with_reducible rfl
          rotate_left
          · simp only [Act.put, List.setIfInBounds_toArray, List.set_cons_zero, List.set_cons_succ, i64_w, i32_w]
            rfl
          refine pure_ (i := 1) (N := some 11) (v := ?_) (a' := ?_) #[true, true, false, false, false, false, false, false, false, false, false, false, false, false, false] rfl rfl (any_of HT_.out (by kernel_rfl)) (fun _ _ _ h => h) (Or.inl ⟨by rfl, ?_⟩) ?_ ?_
          rotate_left
          · intro w'
            go_simp
            with_reducible rfl
          rotate_left
          · simp only [Act.put, List.setIfInBounds_toArray, List.set_cons_zero, List.set_cons_succ, i64_w, i32_w]
            rfl
          refine pure_ (i := 10) (N := some 20) (v := ?_) (a' := ?_) #[true, true, false, false, false, false, false, false, false, false, true, false, false, false, false] rfl rfl (any_of HT_.out (by kernel_rfl)) (fun _ _ _ h => h) (Or.inl ⟨by rfl, ?_⟩) ?_ ?_
          rotate_left
          · intro w'
            go_simp
            with_reducible rfl
          rotate_left
          · simp only [Act.put, List.setIfInBounds_toArray, List.set_cons_zero, List.set_cons_succ, i64_w, i32_w]
            rfl
          refine take_ (i := 2) (N := some 12) (v := ?_) (a' := ?_) #[true, true, true, false, false, false, false, false, false, false, true, false, false, false, false] rfl rfl (take_ofW HT_.out HW_.out (by kernel_rfl)) (fun _ _ _ h => h) (Or.inl ⟨by rfl, ?_⟩) hHeld ?_ ?_
          rotate_left
          · rintro w' ⟨s0, s1⟩
            go_simp
            with_reducible rfl
          rotate_left
          · simp only [Act.put, List.setIfInBounds_toArray, List.set_cons_zero, List.set_cons_succ, i64_w, i32_w]
            rfl
          refine pure_ (i := 3) (N := some 13) (v := ?_) (a' := ?_) #[true, true, true, true, false, false, false, false, false, false, true, false, false, false, false] rfl rfl (any_of HT_.out (by kernel_rfl)) (fun _ _ _ h => h) (Or.inl ⟨by rfl, ?_⟩) ?_ ?_
          rotate_left
          · intro w'
            go_simp
            with_reducible rfl
          rotate_left
          · simp only [Act.put, List.setIfInBounds_toArray, List.set_cons_zero, List.set_cons_succ, i64_w, i32_w]
            rfl
          refine pure_ (i := 4) (N := some 14) (v := ?_) (a' := ?_) #[true, true, true, true, true, false, false, false, false, false, true, false, false, false, false] rfl rfl (any_of HT_.out (by kernel_rfl)) (fun _ _ _ h => h) (Or.inl ⟨by rfl, ?_⟩) ?_ ?_
          rotate_left
          · intro w'
            go_simp
            with_reducible rfl
          rotate_left
          · simp only [Act.put, List.setIfInBounds_toArray, List.set_cons_zero, List.set_cons_succ, i64_w, i32_w]
            rfl
          refine pure_ (i := 5) (N := some 15) (v := ?_) (a' := ?_) #[true, true, true, true, true, true, false, false, false, false, true, false, false, false, false] rfl rfl (any_of HT_.out (by kernel_rfl)) (fun _ _ _ h => h) (Or.inl ⟨by rfl, ?_⟩) ?_ ?_
          rotate_left
          · intro w'
            go_simp
            with_reducible rfl
          rotate_left
          · simp only [Act.put, List.setIfInBounds_toArray, List.set_cons_zero, List.set_cons_succ, i64_w, i32_w]
            rfl
          refine pure_ (i := 6) (N := some 16) (v := ?_) (a' := ?_) #[true, true, true, true, true, true, true, false, false, false, true, false, false, false, false] rfl rfl (any_of HT_.out (by kernel_rfl)) (fun _ _ _ h => h) (Or.inl ⟨by rfl, ?_⟩) ?_ ?_
          rotate_left
          · intro w'
            go_simp
            with_reducible rfl
          rotate_left
          · simp only [Act.put, List.setIfInBounds_toArray, List.set_cons_zero, List.set_cons_succ, i64_w, i32_w]
            rfl
          refine take_ (i := 11) (N := some 21) (v := ?_) (a' := ?_) #[true, true, true, true, true, true, true, false, false, false, true, true, false, false, false] rfl rfl (take_ofW HT_.out HW_.out (by kernel_rfl)) (fun _ _ _ h => h) (Or.inl ⟨by rfl, ?_⟩) hHeld ?_ ?_
          rotate_left
          · rintro w' ⟨s0, s1⟩
            go_simp
            with_reducible rfl
          rotate_left
          · simp only [Act.put, List.setIfInBounds_toArray, List.set_cons_zero, List.set_cons_succ, i64_w, i32_w]
            rfl
          refine join_ (σ := Value) 2 #[true, true, true, true, true, true, true, true, true, true, true, true, true, false, false] (fun s_ => [(17, s_), (18, .string (strOfNums y115)), (22, .string t118), (19, .string ((⟨#[65]⟩ : ByteArray) ++ (strOfNums y115)))]) (fun s_ w' => (w'.cell? ⟨gb113, 0, none⟩ = some (.int .i64 a0_0) ∧ w'.cell? ⟨gb113, 1, none⟩ = some (.int .i64 a0_1)) ∧ (Kd.R (Kd.int .u8) 5 w' w.heap.size (fun _ => True) s_ y115) ∧ (w'.heap[gb113]? = some (.cells #[.int .i64 a0_0, .int .i64 a0_1] 26 (0, 0))) ∧ (Below w.heap.size w w')) ?_ ?_
          rotate_left
          · intro hCont
            refine two_ (i := 7) (j := 12) (Ni := some 17) (Nj := some 22) #[true, true, true, true, true, true, true, true, false, false, true, true, false, false, false] #[true, true, true, true, true, true, true, false, false, false, true, true, true, false, false] rfl rfl rfl rfl (two_of HT_.out (by kernel_rfl)) (by decide) (by decide) (fun K hK => ?_) (fun K hK => ?_)
            · skip
              refine Kd.R_lit_step (Kd.int .u8) _ 5 ?hg (N := 17) ?hd (xs := ([(wrap64 (65 + (Int.tmod (wrap64 (a0_1 - 1)) 26))) % 256] : List Int)) (inner := [.int .u8 ((wrap64 (65 + (Int.tmod (wrap64 (a0_1 - 1)) 26))) % 256)]) (ok := fun _ => True) (okp := fun _ => True) ?hr ?hp (fun _ hk => hk) trivial (Below.refl _ _) (Nat.le_refl _) (by simp) ?_; (case hd => rfl); (case hg => rfl); (case hr => first | (go_simp; done) | (go_simp; rfl)); (case hp => exact (Reps.one (show Kd.M (Kd.int .u8) _ _ _ ((wrap64 (65 + (Int.tmod (wrap64 (a0_1 - 1)) 26))) % 256) [.int .u8 ((wrap64 (65 + (Int.tmod (wrap64 (a0_1 - 1)) 26))) % 256)] from rfl) (Reps.none _ _)))
              intro v116 w13 ho14 hb hg_ hnew_
              clear hg_ hnew_
              (first | rw [← Ny115.out] at ho14 | (simp only [Int.reduceToNat] at ho14; rw [← Ny115.out] at ho14))
              have n0_ := Aside0.mk (Kd.R_lower ho14 (below_size zz4))
              have n1_ := Aside0.mk (blk_below (g := gb113) (o := .cells #[.int .i64 a0_0, .int .i64 a0_1] 26 (0, 0)) (zB BK113.out) hb)
              have n2_ := Aside0.mk (below_step zz4 hb)
              clear BK113
              clear HB
              have HO117 := n0_
              have BK113 := n1_
              have HB := n2_
              clear n0_ n1_ n2_
              clear hb ho14
              refine hK.out _ _ ⟨(blk_cell BK113.out 0).trans rfl, (blk_cell BK113.out 1).trans rfl⟩ (fun hHeld => ?_)
              clear hK K
              refine norm_ (a' := ?_) ?_ ?_
              rotate_left
              · show Act.put _ (some 17) _ = _
                simp only [Act.put, List.setIfInBounds_toArray, List.set_cons_zero, List.set_cons_succ, i64_w, i32_w]
                rfl
              refine two_ (i := 8) (j := 12) (Ni := some 18) (Nj := some 22) #[true, true, true, true, true, true, true, true, true, false, true, true, false, false, false] #[true, true, true, true, true, true, true, true, false, false, true, true, true, false, false] rfl rfl rfl rfl (two_of HT_.out (by kernel_rfl)) (by decide) (by decide) (fun K hK => ?_) (fun K hK => ?_)
              · skip
                have hcv15 := own_string (P := Tryz.prog) Tryz.underlying35 Tryz.underlying5 Tryz.underlying9 (Kd.own_of_R HO117.out)
                refine value_ (w1 := ?_) (v := ?_) (by rfl) rfl ?_ ?_
                rotate_left 2
                · go_simp
                  constructor
                  · rfl
                  · rfl
                clear hcv15
                refine hK.out _ _ ⟨(blk_cell BK113.out 0).trans rfl, (blk_cell BK113.out 1).trans rfl⟩ (fun hHeld => ?_)
                clear hK K
                refine norm_ (a' := ?_) ?_ ?_
                rotate_left
                · show Act.put _ (some 18) _ = _
                  simp only [Act.put, List.setIfInBounds_toArray, List.set_cons_zero, List.set_cons_succ, i64_w, i32_w]
                  rfl
                refine pure_ (i := 9) (N := some 19) (v := ?_) (a' := ?_) #[true, true, true, true, true, true, true, true, true, true, true, true, false, false, false] rfl rfl (any_of HT_.out (by kernel_rfl)) (fun _ _ _ h => h) (Or.inl ⟨by rfl, ?_⟩) ?_ ?_
                rotate_left
                · intro w'
                  go_simp
                  with_reducible rfl
                rotate_left
                · simp only [Act.put, List.setIfInBounds_toArray, List.set_cons_zero, List.set_cons_succ, i64_w, i32_w]
                  rfl
                refine one_ (i := 12) (N := some 22) #[true, true, true, true, true, true, true, true, true, true, true, true, true, false, false] rfl rfl (one_of HT_.out (by kernel_rfl)) (by decide) (fun K hK => ?_)
                refine goes_ Tryz.func49 (by kernel_rfl) rfl #[.int .i64 a0_0] (by rfl) rfl rfl zz25 ?_
                with_reducible refine (strconv_Itoa.calls a0_0 t118 _ ?side1 A6.out).mono ?_
                (case side1 => exact gl_1_1 zz4 hG)
                rintro e w16 ⟨rfl, hb⟩
                refine ⟨_, rfl, ?_⟩
                have n0_ := Aside0.mk (Kd.R_below (by (with_reducible repeat (first | apply Kd.R_alloc | apply Kd.R_drewN | apply Kd.R_drew)); exact HO117.out) hb)
                have n1_ := Aside0.mk (blk_below (g := gb113) (o := .cells #[.int .i64 a0_0, .int .i64 a0_1] 26 (0, 0)) (zB BK113.out) hb)
                have n2_ := Aside0.mk (below_step zz4 hb)
                clear HO117
                clear BK113
                clear HB
                have HO117 := n0_
                have BK113 := n1_
                have HB := n2_
                clear n0_ n1_ n2_
                (try clear hb)
                (try clear hb2)
                (try clear hk)
                (try clear hi)
                refine hK.out _ _ ⟨(blk_cell BK113.out 0).trans rfl, (blk_cell BK113.out 1).trans rfl⟩ (fun hHeld => ?_)
                clear hK K
                refine norm_ (a' := ?_) ?_ ?_
                rotate_left
                · show Act.put _ (some 22) _ = _
                  simp only [Act.put, List.setIfInBounds_toArray, List.set_cons_zero, List.set_cons_succ, i64_w, i32_w]
                  rfl
                exact norm_ (by simp only [putAll, Act.put, List.setIfInBounds_toArray, List.set_cons_zero, List.set_cons_succ]) (hCont (v116) _ ⟨hHeld, (by (with_reducible repeat (first | apply Kd.R_alloc | apply Kd.R_drewN | apply Kd.R_drew)); exact HO117.out), (zB BK113.out), zz4⟩)
              · skip
                refine goes_ Tryz.func49 (by kernel_rfl) rfl #[.int .i64 a0_0] (by rfl) rfl rfl zz25 ?_
                with_reducible refine (strconv_Itoa.calls a0_0 t118 _ ?side1 A6.out).mono ?_
                (case side1 => exact gl_1_1 zz4 hG)
                rintro e w15 ⟨rfl, hb⟩
                refine ⟨_, rfl, ?_⟩
                have n0_ := Aside0.mk (Kd.R_below (by (with_reducible repeat (first | apply Kd.R_alloc | apply Kd.R_drewN | apply Kd.R_drew)); exact HO117.out) hb)
                have n1_ := Aside0.mk (blk_below (g := gb113) (o := .cells #[.int .i64 a0_0, .int .i64 a0_1] 26 (0, 0)) (zB BK113.out) hb)
                have n2_ := Aside0.mk (below_step zz4 hb)
                clear HO117
                clear BK113
                clear HB
                have HO117 := n0_
                have BK113 := n1_
                have HB := n2_
                clear n0_ n1_ n2_
                (try clear hb)
                (try clear hb2)
                (try clear hk)
                (try clear hi)
                refine hK.out _ _ ⟨(blk_cell BK113.out 0).trans rfl, (blk_cell BK113.out 1).trans rfl⟩ (fun hHeld => ?_)
                clear hK K
                refine norm_ (a' := ?_) ?_ ?_
                rotate_left
                · show Act.put _ (some 22) _ = _
                  simp only [Act.put, List.setIfInBounds_toArray, List.set_cons_zero, List.set_cons_succ, i64_w, i32_w]
                  rfl
                refine one_ (i := 8) (N := some 18) #[true, true, true, true, true, true, true, true, true, false, true, true, true, false, false] rfl rfl (one_of HT_.out (by kernel_rfl)) (by decide) (fun K hK => ?_)
                have hcv16 := own_string (P := Tryz.prog) Tryz.underlying35 Tryz.underlying5 Tryz.underlying9 (Kd.own_of_R HO117.out)
                refine value_ (w1 := ?_) (v := ?_) (by rfl) rfl ?_ ?_
                rotate_left 2
                · go_simp
                  constructor
                  · rfl
                  · rfl
                clear hcv16
                refine hK.out _ _ ⟨(blk_cell BK113.out 0).trans rfl, (blk_cell BK113.out 1).trans rfl⟩ (fun hHeld => ?_)
                clear hK K
                refine norm_ (a' := ?_) ?_ ?_
                rotate_left
                · show Act.put _ (some 18) _ = _
                  simp only [Act.put, List.setIfInBounds_toArray, List.set_cons_zero, List.set_cons_succ, i64_w, i32_w]
                  rfl
                refine pure_ (i := 9) (N := some 19) (v := ?_) (a' := ?_) #[true, true, true, true, true, true, true, true, true, true, true, true, true, false, false] rfl rfl (any_of HT_.out (by kernel_rfl)) (fun _ _ _ h => h) (Or.inl ⟨by rfl, ?_⟩) ?_ ?_
                rotate_left
                · intro w'
                  go_simp
                  with_reducible rfl
                rotate_left
                · simp only [Act.put, List.setIfInBounds_toArray, List.set_cons_zero, List.set_cons_succ, i64_w, i32_w]
                  rfl
                exact norm_ (by simp only [putAll, Act.put, List.setIfInBounds_toArray, List.set_cons_zero, List.set_cons_succ]) (hCont (v116) _ ⟨hHeld, (by (with_reducible repeat (first | apply Kd.R_alloc | apply Kd.R_drewN | apply Kd.R_drew)); exact HO117.out), (zB BK113.out), zz4⟩)
            · skip
              refine goes_ Tryz.func49 (by kernel_rfl) rfl #[.int .i64 a0_0] (by rfl) rfl rfl zz25 ?_
              with_reducible refine (strconv_Itoa.calls a0_0 t118 _ ?side1 A6.out).mono ?_
              (case side1 => exact gl_1_1 zz4 hG)
              rintro e w13 ⟨rfl, hb⟩
              refine ⟨_, rfl, ?_⟩
              have n0_ := Aside0.mk (blk_below (g := gb113) (o := .cells #[.int .i64 a0_0, .int .i64 a0_1] 26 (0, 0)) (zB BK113.out) hb)
              have n1_ := Aside0.mk (below_step zz4 hb)
              clear BK113
              clear HB
              have BK113 := n0_
              have HB := n1_
              clear n0_ n1_
              (try clear hb)
              (try clear hb2)
              (try clear hk)
              (try clear hi)
              refine hK.out _ _ ⟨(blk_cell BK113.out 0).trans rfl, (blk_cell BK113.out 1).trans rfl⟩ (fun hHeld => ?_)
              clear hK K
              refine norm_ (a' := ?_) ?_ ?_
              rotate_left
              · show Act.put _ (some 22) _ = _
                simp only [Act.put, List.setIfInBounds_toArray, List.set_cons_zero, List.set_cons_succ, i64_w, i32_w]
                rfl
              refine one_ (i := 7) (N := some 17) #[true, true, true, true, true, true, true, true, false, false, true, true, true, false, false] rfl rfl (one_of HT_.out (by kernel_rfl)) (by decide) (fun K hK => ?_)
              refine Kd.R_lit_step (Kd.int .u8) _ 5 ?hg (N := 17) ?hd (xs := ([(wrap64 (65 + (Int.tmod (wrap64 (a0_1 - 1)) 26))) % 256] : List Int)) (inner := [.int .u8 ((wrap64 (65 + (Int.tmod (wrap64 (a0_1 - 1)) 26))) % 256)]) (ok := fun _ => True) (okp := fun _ => True) ?hr ?hp (fun _ hk => hk) trivial (Below.refl _ _) (Nat.le_refl _) (by simp) ?_; (case hd => rfl); (case hg => rfl); (case hr => first | (go_simp; done) | (go_simp; rfl)); (case hp => exact (Reps.one (show Kd.M (Kd.int .u8) _ _ _ ((wrap64 (65 + (Int.tmod (wrap64 (a0_1 - 1)) 26))) % 256) [.int .u8 ((wrap64 (65 + (Int.tmod (wrap64 (a0_1 - 1)) 26))) % 256)] from rfl) (Reps.none _ _)))
              intro v116 w14 ho15 hb hg_ hnew_
              clear hg_ hnew_
              (first | rw [← Ny115.out] at ho15 | (simp only [Int.reduceToNat] at ho15; rw [← Ny115.out] at ho15))
              have n0_ := Aside0.mk (Kd.R_lower ho15 (below_size zz4))
              have n1_ := Aside0.mk (blk_below (g := gb113) (o := .cells #[.int .i64 a0_0, .int .i64 a0_1] 26 (0, 0)) (zB BK113.out) hb)
              have n2_ := Aside0.mk (below_step zz4 hb)
              clear BK113
              clear HB
              have HO117 := n0_
              have BK113 := n1_
              have HB := n2_
              clear n0_ n1_ n2_
              clear hb ho15
              refine hK.out _ _ ⟨(blk_cell BK113.out 0).trans rfl, (blk_cell BK113.out 1).trans rfl⟩ (fun hHeld => ?_)
              clear hK K
              refine norm_ (a' := ?_) ?_ ?_
              rotate_left
              · show Act.put _ (some 17) _ = _
                simp only [Act.put, List.setIfInBounds_toArray, List.set_cons_zero, List.set_cons_succ, i64_w, i32_w]
                rfl
              refine one_ (i := 8) (N := some 18) #[true, true, true, true, true, true, true, true, true, false, true, true, true, false, false] rfl rfl (one_of HT_.out (by kernel_rfl)) (by decide) (fun K hK => ?_)
              have hcv16 := own_string (P := Tryz.prog) Tryz.underlying35 Tryz.underlying5 Tryz.underlying9 (Kd.own_of_R HO117.out)
              refine value_ (w1 := ?_) (v := ?_) (by rfl) rfl ?_ ?_
              rotate_left 2
              · go_simp
                constructor
                · rfl
                · rfl
              clear hcv16
              refine hK.out _ _ ⟨(blk_cell BK113.out 0).trans rfl, (blk_cell BK113.out 1).trans rfl⟩ (fun hHeld => ?_)
              clear hK K
              refine norm_ (a' := ?_) ?_ ?_
              rotate_left
              · show Act.put _ (some 18) _ = _
                simp only [Act.put, List.setIfInBounds_toArray, List.set_cons_zero, List.set_cons_succ, i64_w, i32_w]
                rfl
              refine pure_ (i := 9) (N := some 19) (v := ?_) (a' := ?_) #[true, true, true, true, true, true, true, true, true, true, true, true, true, false, false] rfl rfl (any_of HT_.out (by kernel_rfl)) (fun _ _ _ h => h) (Or.inl ⟨by rfl, ?_⟩) ?_ ?_
              rotate_left
              · intro w'
                go_simp
                with_reducible rfl
              rotate_left
              · simp only [Act.put, List.setIfInBounds_toArray, List.set_cons_zero, List.set_cons_succ, i64_w, i32_w]
                rfl
              exact norm_ (by simp only [putAll, Act.put, List.setIfInBounds_toArray, List.set_cons_zero, List.set_cons_succ]) (hCont (v116) _ ⟨hHeld, (by (with_reducible repeat (first | apply Kd.R_alloc | apply Kd.R_drewN | apply Kd.R_drew)); exact HO117.out), (zB BK113.out), zz4⟩)
          rintro v116 w17 ⟨hS_, h0_, h1_, h2_⟩
          have n0_ : Aside0 (Kd.R (Kd.int .u8) 5 w17 w.heap.size (fun _ => True) v116 y115) := ⟨h0_⟩
          have n1_ : Aside0 (w17.heap[gb113]? = some (.cells #[.int .i64 a0_0, .int .i64 a0_1] 26 (0, 0))) := ⟨h1_⟩
          have n2_ : Aside0 (Below w.heap.size w w17) := ⟨h2_⟩
          clear BK113
          clear HB
          clear h0_ h1_ h2_
          have HO117 := n0_
          have BK113 := n1_
          have HB := n2_
          clear n0_ n1_ n2_
          have hHeld : w17.cell? ⟨gb113, 0, none⟩ = some (.int .i64 a0_0) ∧ w17.cell? ⟨gb113, 1, none⟩ = some (.int .i64 a0_1) := hS_
          refine norm_ (a' := ?_) ?_ ?_
          rotate_left
          · simp only [putAll, Act.put, List.setIfInBounds_toArray, List.set_cons_zero, List.set_cons_succ]
            rfl
          refine pure_ (i := 13) (N := some 23) (v := ?_) (a' := ?_) #[true, true, true, true, true, true, true, true, true, true, true, true, true, true, false] rfl rfl (any_of HT_.out (by kernel_rfl)) (fun _ _ _ h => h) (Or.inl ⟨by rfl, ?_⟩) ?_ ?_
          rotate_left
          · intro w'
            go_simp
            with_reducible rfl
          rotate_left
          · simp only [Act.put, List.setIfInBounds_toArray, List.set_cons_zero, List.set_cons_succ, i64_w, i32_w]
            rfl
          refine pure_ (i := 14) (N := some 2) (v := ?_) (a' := ?_) #[true, true, true, true, true, true, true, true, true, true, true, true, true, true, true] rfl rfl (any_of HT_.out (by kernel_rfl)) (fun _ _ _ h => h) (Or.inl ⟨by rfl, ?_⟩) ?_ ?_
          rotate_left
          · intro w'
            go_simp
            with_reducible rfl
          rotate_left
          · simp only [Act.put, List.setIfInBounds_toArray, List.set_cons_zero, List.set_cons_succ, i64_w, i32_w]
            rfl
          refine done_ (done_of HT_.out (by kernel_rfl)) ?_
          try go_wp2
          go_ret
          exact ⟨zz26, zz4⟩
        · rw [if_neg c7] at H
          exact absurd H (by simp)
      · rw [if_neg c5] at H
        exact absurd H (by simp)
    · rw [if_neg c4] at H
      have c4b0 : decide (26 < a0_1) = false := decide_eq_false c4
      clear c4
      obtain ⟨y119, hy119⟩ : ∃ y_ : List Int, y_ = (([(wrap64 (65 + (Int.tmod (wrap64 (a0_1 - 1)) 26))) % 256] : List Int)) := ⟨_, rfl⟩
      replace H : (if 0 + (strOfNums y119).size ≤ 9223372036854775807 then ((strconv_Itoa.f a0_0).bind fun t122 => (if ((⟨#[]⟩ : ByteArray) ++ (strOfNums y119)).size + t122.size ≤ 9223372036854775807 then (some (((⟨#[]⟩ : ByteArray) ++ (strOfNums y119)) ++ t122)) else (none))) else (none)) = some r := by first | (rw [hy119]; with_reducible exact H) | (have H2_ := (Option.bind_some _ _).symm.trans H; rw [hy119]; with_reducible exact H2_) | (have H2_ := (Option.bind_some _ _).symm.trans H; with_reducible exact H2_) | with_reducible exact H | (rw [hy119]; exact H) | exact H
      have Ny119 := Aside0.mk hy119
      clear hy119
      by_cases c18 : 0 + (strOfNums y119).size ≤ 9223372036854775807
      · rw [if_pos c18] at H
        have c18b0 := eq_true c18
        have c18b1 : decide (0 + (strOfNums y119).size ≤ 9223372036854775807) = true := decide_eq_true c18
        try have c18b2 : (9223372036854775807 < 0 + (strOfNums y119).size) = False := eq_false (Nat.not_lt.2 c18)
        have c18x3 : (9223372036854775807 < (strOfNums y119).size) = False := eq_false (by have z_ := c18; omega)
        replace H := Option.bind_eq_some_iff.mp H
        obtain ⟨t122, A190, H⟩ := H
        replace H : (if ((⟨#[]⟩ : ByteArray) ++ (strOfNums y119)).size + t122.size ≤ 9223372036854775807 then (some (((⟨#[]⟩ : ByteArray) ++ (strOfNums y119)) ++ t122)) else (none)) = some r := H
        have A19 := Aside0.mk A190
        clear A190
        by_cases c20 : ((⟨#[]⟩ : ByteArray) ++ (strOfNums y119)).size + t122.size ≤ 9223372036854775807
        · rw [if_pos c20] at H
          have c20b0 := eq_true c20
          have c20b1 : decide (((⟨#[]⟩ : ByteArray) ++ (strOfNums y119)).size + t122.size ≤ 9223372036854775807) = true := decide_eq_true c20
          try have c20b2 : (9223372036854775807 < ((⟨#[]⟩ : ByteArray) ++ (strOfNums y119)).size + t122.size) = False := eq_false (Nat.not_lt.2 c20)
          have c20x1 : (9223372036854775807 < 0 + (strOfNums y119).size + t122.size) = False := eq_false (by have z_ := c20; rw [ByteArray.size_append] at z_; have z2_ : (⟨#[]⟩ : ByteArray).size = 0 := rfl; omega)
          have c20x2 : (9223372036854775807 < (strOfNums y119).size + t122.size) = False := eq_false (by have z_ := c20; rw [ByteArray.size_append] at z_; have z2_ : (⟨#[]⟩ : ByteArray).size = 0 := rfl; omega)
          obtain rfl := Option.some.inj H
          go_enter Tryz.func29, Tryz.ntmps29
          try go_wp2_with (first | ((with_reducible refine gate_dst (N := 1) rfl ?_); refine box_event ?hg (N := 1) ?hd (cs := #[.int .i64 a0_0, .int .i64 a0_1]) (t := 26) ?hr ?_; (case hd => rfl); (case hg => rfl); (case hr => first | (go_simp; done) | (go_simp; rfl)); intro gb113 hg w21 hbox hb; have n0_ := Aside0.mk (below_step zz1 hb); have n1_ := Aside0.mk (hbox); have n2_ := Aside0.mk ((by rw [hg]; exact (below_size zz1) : w.heap.size ≤ gb113)); have n3_ := n2_; clear HB; have HB := n0_; have BK113 := n1_; have GW113 := n2_; have GE113 := n3_; clear n0_ n1_ n2_ n3_; clear hb hbox hg; obtain ⟨_, _, _, _⟩ := zC2 BK113.out) | ((with_reducible refine gate_callee (f := 48) rfl ?_); refine goesL_ (some 5) rfl rfl Tryz.func48 (by kernel_rfl) rfl #[.agg #[.int .i64 a0_0, .int .i64 a0_1]] rfl zz25 ?_; (with_reducible refine (addr_Good.calls a0_0 a0_1 true _ A2.out).mono ?_); rintro e w23 ⟨rfl, hb⟩; refine ⟨_, rfl, ?_⟩; have n0_ := Aside0.mk (blk_below (g := gb113) (o := .cells #[.int .i64 a0_0, .int .i64 a0_1] 26 (0, 0)) (zB BK113.out) hb); have n1_ := Aside0.mk (below_step zz4 hb); clear BK113; clear HB; have BK113 := n0_; have HB := n1_; clear n0_ n1_; (try clear hb); (try clear hb2); (try clear hk); (try clear hi); obtain ⟨_, _, _, _⟩ := zC2 BK113.out))
          have n0_ := Aside0.mk (blk_drew BK113.out)
          have n1_ := Aside0.mk (below_drew1 HB.out)
          clear BK113
          clear HB
          have BK113 := n0_
          have HB := n1_
          clear n0_ n1_
          refine start_ (n := 15) (S := fun w' => w'.cell? ⟨gb113, 0, none⟩ = some (.int .i64 a0_0) ∧ w'.cell? ⟨gb113, 1, none⟩ = some (.int .i64 a0_1)) (ds := []) #[false, false, false, false, false, false, false, false, false, false, false, false, false, false, false] (by kernel_rfl) rfl rfl ⟨(blk_cell BK113.out 0).trans rfl, (blk_cell BK113.out 1).trans rfl⟩ (fun hHeld => ?_); refine with_tabW addr_Name.tab6 addr_Name.bits6 (fun HT_ HW_ => ?_)
          generalize w23.drew = w25 at BK113 HB hHeld ⊢
          refine pure_ (i := 0) (N := some 10) (v := ?_) (a' := ?_) #[true, false, false, false, false, false, false, false, false, false, false, false, false, false, false] rfl rfl (any_of HT_.out (by kernel_rfl)) (fun _ _ _ h => h) (Or.inl ⟨by rfl, ?_⟩) ?_ ?_
          rotate_left
          · intro w'
            go_simp
            with_reducible rfl
          rotate_left
          · simp only [Act.put, List.setIfInBounds_toArray, List.set_cons_zero, List.set_cons_succ, i64_w, i32_w]
            rfl
          refine pure_ (i := 1) (N := some 11) (v := ?_) (a' := ?_) #[true, true, false, false, false, false, false, false, false, false, false, false, false, false, false] rfl rfl (any_of HT_.out (by kernel_rfl)) (fun _ _ _ h => h) (Or.inl ⟨by rfl, ?_⟩) ?_ ?_
          rotate_left
          · intro w'
            go_simp
            with_reducible rfl
          rotate_left
          · simp only [Act.put, List.setIfInBounds_toArray, List.set_cons_zero, List.set_cons_succ, i64_w, i32_w]
            rfl
          refine pure_ (i := 10) (N := some 20) (v := ?_) (a' := ?_) #[true, true, false, false, false, false, false, false, false, false, true, false, false, false, false] rfl rfl (any_of HT_.out (by kernel_rfl)) (fun _ _ _ h => h) (Or.inl ⟨by rfl, ?_⟩) ?_ ?_
          rotate_left
          · intro w'
            go_simp
            with_reducible rfl
          rotate_left
          · simp only [Act.put, List.setIfInBounds_toArray, List.set_cons_zero, List.set_cons_succ, i64_w, i32_w]
            rfl
          refine take_ (i := 2) (N := some 12) (v := ?_) (a' := ?_) #[true, true, true, false, false, false, false, false, false, false, true, false, false, false, false] rfl rfl (take_ofW HT_.out HW_.out (by kernel_rfl)) (fun _ _ _ h => h) (Or.inl ⟨by rfl, ?_⟩) hHeld ?_ ?_
          rotate_left
          · rintro w' ⟨s0, s1⟩
            go_simp
            with_reducible rfl
          rotate_left
          · simp only [Act.put, List.setIfInBounds_toArray, List.set_cons_zero, List.set_cons_succ, i64_w, i32_w]
            rfl
          refine pure_ (i := 3) (N := some 13) (v := ?_) (a' := ?_) #[true, true, true, true, false, false, false, false, false, false, true, false, false, false, false] rfl rfl (any_of HT_.out (by kernel_rfl)) (fun _ _ _ h => h) (Or.inl ⟨by rfl, ?_⟩) ?_ ?_
          rotate_left
          · intro w'
            go_simp
            with_reducible rfl
          rotate_left
          · simp only [Act.put, List.setIfInBounds_toArray, List.set_cons_zero, List.set_cons_succ, i64_w, i32_w]
            rfl
          refine pure_ (i := 4) (N := some 14) (v := ?_) (a' := ?_) #[true, true, true, true, true, false, false, false, false, false, true, false, false, false, false] rfl rfl (any_of HT_.out (by kernel_rfl)) (fun _ _ _ h => h) (Or.inl ⟨by rfl, ?_⟩) ?_ ?_
          rotate_left
          · intro w'
            go_simp
            with_reducible rfl
          rotate_left
          · simp only [Act.put, List.setIfInBounds_toArray, List.set_cons_zero, List.set_cons_succ, i64_w, i32_w]
            rfl
          refine pure_ (i := 5) (N := some 15) (v := ?_) (a' := ?_) #[true, true, true, true, true, true, false, false, false, false, true, false, false, false, false] rfl rfl (any_of HT_.out (by kernel_rfl)) (fun _ _ _ h => h) (Or.inl ⟨by rfl, ?_⟩) ?_ ?_
          rotate_left
          · intro w'
            go_simp
            with_reducible rfl
          rotate_left
          · simp only [Act.put, List.setIfInBounds_toArray, List.set_cons_zero, List.set_cons_succ, i64_w, i32_w]
            rfl
          refine pure_ (i := 6) (N := some 16) (v := ?_) (a' := ?_) #[true, true, true, true, true, true, true, false, false, false, true, false, false, false, false] rfl rfl (any_of HT_.out (by kernel_rfl)) (fun _ _ _ h => h) (Or.inl ⟨by rfl, ?_⟩) ?_ ?_
          rotate_left
          · intro w'
            go_simp
            with_reducible rfl
          rotate_left
          · simp only [Act.put, List.setIfInBounds_toArray, List.set_cons_zero, List.set_cons_succ, i64_w, i32_w]
            rfl
          refine take_ (i := 11) (N := some 21) (v := ?_) (a' := ?_) #[true, true, true, true, true, true, true, false, false, false, true, true, false, false, false] rfl rfl (take_ofW HT_.out HW_.out (by kernel_rfl)) (fun _ _ _ h => h) (Or.inl ⟨by rfl, ?_⟩) hHeld ?_ ?_
          rotate_left
          · rintro w' ⟨s0, s1⟩
            go_simp
            with_reducible rfl
          rotate_left
          · simp only [Act.put, List.setIfInBounds_toArray, List.set_cons_zero, List.set_cons_succ, i64_w, i32_w]
            rfl
          refine join_ (σ := Value) 2 #[true, true, true, true, true, true, true, true, true, true, true, true, true, false, false] (fun s_ => [(17, s_), (18, .string (strOfNums y119)), (22, .string t122), (19, .string ((⟨#[]⟩ : ByteArray) ++ (strOfNums y119)))]) (fun s_ w' => (w'.cell? ⟨gb113, 0, none⟩ = some (.int .i64 a0_0) ∧ w'.cell? ⟨gb113, 1, none⟩ = some (.int .i64 a0_1)) ∧ (Kd.R (Kd.int .u8) 5 w' w.heap.size (fun _ => True) s_ y119) ∧ (w'.heap[gb113]? = some (.cells #[.int .i64 a0_0, .int .i64 a0_1] 26 (0, 0))) ∧ (Below w.heap.size w w')) ?_ ?_
          rotate_left
          · intro hCont
            refine two_ (i := 7) (j := 12) (Ni := some 17) (Nj := some 22) #[true, true, true, true, true, true, true, true, false, false, true, true, false, false, false] #[true, true, true, true, true, true, true, false, false, false, true, true, true, false, false] rfl rfl rfl rfl (two_of HT_.out (by kernel_rfl)) (by decide) (by decide) (fun K hK => ?_) (fun K hK => ?_)
            · skip
              refine Kd.R_lit_step (Kd.int .u8) _ 5 ?hg (N := 17) ?hd (xs := ([(wrap64 (65 + (Int.tmod (wrap64 (a0_1 - 1)) 26))) % 256] : List Int)) (inner := [.int .u8 ((wrap64 (65 + (Int.tmod (wrap64 (a0_1 - 1)) 26))) % 256)]) (ok := fun _ => True) (okp := fun _ => True) ?hr ?hp (fun _ hk => hk) trivial (Below.refl _ _) (Nat.le_refl _) (by simp) ?_; (case hd => rfl); (case hg => rfl); (case hr => first | (go_simp; done) | (go_simp; rfl)); (case hp => exact (Reps.one (show Kd.M (Kd.int .u8) _ _ _ ((wrap64 (65 + (Int.tmod (wrap64 (a0_1 - 1)) 26))) % 256) [.int .u8 ((wrap64 (65 + (Int.tmod (wrap64 (a0_1 - 1)) 26))) % 256)] from rfl) (Reps.none _ _)))
              intro v120 w26 ho27 hb hg_ hnew_
              clear hg_ hnew_
              (first | rw [← Ny119.out] at ho27 | (simp only [Int.reduceToNat] at ho27; rw [← Ny119.out] at ho27))
              have n0_ := Aside0.mk (Kd.R_lower ho27 (below_size zz4))
              have n1_ := Aside0.mk (blk_below (g := gb113) (o := .cells #[.int .i64 a0_0, .int .i64 a0_1] 26 (0, 0)) (zB BK113.out) hb)
              have n2_ := Aside0.mk (below_step zz4 hb)
              clear BK113
              clear HB
              have HO121 := n0_
              have BK113 := n1_
              have HB := n2_
              clear n0_ n1_ n2_
              clear hb ho27
              refine hK.out _ _ ⟨(blk_cell BK113.out 0).trans rfl, (blk_cell BK113.out 1).trans rfl⟩ (fun hHeld => ?_)
              clear hK K
              refine norm_ (a' := ?_) ?_ ?_
              rotate_left
              · show Act.put _ (some 17) _ = _
                simp only [Act.put, List.setIfInBounds_toArray, List.set_cons_zero, List.set_cons_succ, i64_w, i32_w]
                rfl
              refine two_ (i := 8) (j := 12) (Ni := some 18) (Nj := some 22) #[true, true, true, true, true, true, true, true, true, false, true, true, false, false, false] #[true, true, true, true, true, true, true, true, false, false, true, true, true, false, false] rfl rfl rfl rfl (two_of HT_.out (by kernel_rfl)) (by decide) (by decide) (fun K hK => ?_) (fun K hK => ?_)
              · skip
                have hcv28 := own_string (P := Tryz.prog) Tryz.underlying35 Tryz.underlying5 Tryz.underlying9 (Kd.own_of_R HO121.out)
                refine value_ (w1 := ?_) (v := ?_) (by rfl) rfl ?_ ?_
                rotate_left 2
                · go_simp
                  constructor
                  · rfl
                  · rfl
                clear hcv28
                refine hK.out _ _ ⟨(blk_cell BK113.out 0).trans rfl, (blk_cell BK113.out 1).trans rfl⟩ (fun hHeld => ?_)
                clear hK K
                refine norm_ (a' := ?_) ?_ ?_
                rotate_left
                · show Act.put _ (some 18) _ = _
                  simp only [Act.put, List.setIfInBounds_toArray, List.set_cons_zero, List.set_cons_succ, i64_w, i32_w]
                  rfl
                refine pure_ (i := 9) (N := some 19) (v := ?_) (a' := ?_) #[true, true, true, true, true, true, true, true, true, true, true, true, false, false, false] rfl rfl (any_of HT_.out (by kernel_rfl)) (fun _ _ _ h => h) (Or.inl ⟨by rfl, ?_⟩) ?_ ?_
                rotate_left
                · intro w'
                  go_simp
                  with_reducible rfl
                rotate_left
                · simp only [Act.put, List.setIfInBounds_toArray, List.set_cons_zero, List.set_cons_succ, i64_w, i32_w]
                  rfl
                refine one_ (i := 12) (N := some 22) #[true, true, true, true, true, true, true, true, true, true, true, true, true, false, false] rfl rfl (one_of HT_.out (by kernel_rfl)) (by decide) (fun K hK => ?_)
                refine goes_ Tryz.func49 (by kernel_rfl) rfl #[.int .i64 a0_0] (by rfl) rfl rfl zz25 ?_
                with_reducible refine (strconv_Itoa.calls a0_0 t122 _ ?side1 A19.out).mono ?_
                (case side1 => exact gl_1_1 zz4 hG)
                rintro e w29 ⟨rfl, hb⟩
                refine ⟨_, rfl, ?_⟩
                have n0_ := Aside0.mk (Kd.R_below (by (with_reducible repeat (first | apply Kd.R_alloc | apply Kd.R_drewN | apply Kd.R_drew)); exact HO121.out) hb)
                have n1_ := Aside0.mk (blk_below (g := gb113) (o := .cells #[.int .i64 a0_0, .int .i64 a0_1] 26 (0, 0)) (zB BK113.out) hb)
                have n2_ := Aside0.mk (below_step zz4 hb)
                clear HO121
                clear BK113
                clear HB
                have HO121 := n0_
                have BK113 := n1_
                have HB := n2_
                clear n0_ n1_ n2_
                (try clear hb)
                (try clear hb2)
                (try clear hk)
                (try clear hi)
                refine hK.out _ _ ⟨(blk_cell BK113.out 0).trans rfl, (blk_cell BK113.out 1).trans rfl⟩ (fun hHeld => ?_)
                clear hK K
                refine norm_ (a' := ?_) ?_ ?_
                rotate_left
                · show Act.put _ (some 22) _ = _
                  simp only [Act.put, List.setIfInBounds_toArray, List.set_cons_zero, List.set_cons_succ, i64_w, i32_w]
                  rfl
                exact norm_ (by simp only [putAll, Act.put, List.setIfInBounds_toArray, List.set_cons_zero, List.set_cons_succ]) (hCont (v120) _ ⟨hHeld, (by (with_reducible repeat (first | apply Kd.R_alloc | apply Kd.R_drewN | apply Kd.R_drew)); exact HO121.out), (zB BK113.out), zz4⟩)
              · skip
                refine goes_ Tryz.func49 (by kernel_rfl) rfl #[.int .i64 a0_0] (by rfl) rfl rfl zz25 ?_
                with_reducible refine (strconv_Itoa.calls a0_0 t122 _ ?side1 A19.out).mono ?_
                (case side1 => exact gl_1_1 zz4 hG)
                rintro e w28 ⟨rfl, hb⟩
                refine ⟨_, rfl, ?_⟩
                have n0_ := Aside0.mk (Kd.R_below (by (with_reducible repeat (first | apply Kd.R_alloc | apply Kd.R_drewN | apply Kd.R_drew)); exact HO121.out) hb)
                have n1_ := Aside0.mk (blk_below (g := gb113) (o := .cells #[.int .i64 a0_0, .int .i64 a0_1] 26 (0, 0)) (zB BK113.out) hb)
                have n2_ := Aside0.mk (below_step zz4 hb)
                clear HO121
                clear BK113
                clear HB
                have HO121 := n0_
                have BK113 := n1_
                have HB := n2_
                clear n0_ n1_ n2_
                (try clear hb)
                (try clear hb2)
                (try clear hk)
                (try clear hi)
                refine hK.out _ _ ⟨(blk_cell BK113.out 0).trans rfl, (blk_cell BK113.out 1).trans rfl⟩ (fun hHeld => ?_)
                clear hK K
                refine norm_ (a' := ?_) ?_ ?_
                rotate_left
                · show Act.put _ (some 22) _ = _
                  simp only [Act.put, List.setIfInBounds_toArray, List.set_cons_zero, List.set_cons_succ, i64_w, i32_w]
                  rfl
                refine one_ (i := 8) (N := some 18) #[true, true, true, true, true, true, true, true, true, false, true, true, true, false, false] rfl rfl (one_of HT_.out (by kernel_rfl)) (by decide) (fun K hK => ?_)
                have hcv29 := own_string (P := Tryz.prog) Tryz.underlying35 Tryz.underlying5 Tryz.underlying9 (Kd.own_of_R HO121.out)
                refine value_ (w1 := ?_) (v := ?_) (by rfl) rfl ?_ ?_
                rotate_left 2
                · go_simp
                  constructor
                  · rfl
                  · rfl
                clear hcv29
                refine hK.out _ _ ⟨(blk_cell BK113.out 0).trans rfl, (blk_cell BK113.out 1).trans rfl⟩ (fun hHeld => ?_)
                clear hK K
                refine norm_ (a' := ?_) ?_ ?_
                rotate_left
                · show Act.put _ (some 18) _ = _
                  simp only [Act.put, List.setIfInBounds_toArray, List.set_cons_zero, List.set_cons_succ, i64_w, i32_w]
                  rfl
                refine pure_ (i := 9) (N := some 19) (v := ?_) (a' := ?_) #[true, true, true, true, true, true, true, true, true, true, true, true, true, false, false] rfl rfl (any_of HT_.out (by kernel_rfl)) (fun _ _ _ h => h) (Or.inl ⟨by rfl, ?_⟩) ?_ ?_
                rotate_left
                · intro w'
                  go_simp
                  with_reducible rfl
                rotate_left
                · simp only [Act.put, List.setIfInBounds_toArray, List.set_cons_zero, List.set_cons_succ, i64_w, i32_w]
                  rfl
                exact norm_ (by simp only [putAll, Act.put, List.setIfInBounds_toArray, List.set_cons_zero, List.set_cons_succ]) (hCont (v120) _ ⟨hHeld, (by (with_reducible repeat (first | apply Kd.R_alloc | apply Kd.R_drewN | apply Kd.R_drew)); exact HO121.out), (zB BK113.out), zz4⟩)
            · skip
              refine goes_ Tryz.func49 (by kernel_rfl) rfl #[.int .i64 a0_0] (by rfl) rfl rfl zz25 ?_
              with_reducible refine (strconv_Itoa.calls a0_0 t122 _ ?side1 A19.out).mono ?_
              (case side1 => exact gl_1_1 zz4 hG)
              rintro e w26 ⟨rfl, hb⟩
              refine ⟨_, rfl, ?_⟩
              have n0_ := Aside0.mk (blk_below (g := gb113) (o := .cells #[.int .i64 a0_0, .int .i64 a0_1] 26 (0, 0)) (zB BK113.out) hb)
              have n1_ := Aside0.mk (below_step zz4 hb)
              clear BK113
              clear HB
              have BK113 := n0_
              have HB := n1_
              clear n0_ n1_
              (try clear hb)
              (try clear hb2)
              (try clear hk)
              (try clear hi)
              refine hK.out _ _ ⟨(blk_cell BK113.out 0).trans rfl, (blk_cell BK113.out 1).trans rfl⟩ (fun hHeld => ?_)
              clear hK K
              refine norm_ (a' := ?_) ?_ ?_
              rotate_left
              · show Act.put _ (some 22) _ = _
                simp only [Act.put, List.setIfInBounds_toArray, List.set_cons_zero, List.set_cons_succ, i64_w, i32_w]
                rfl
              refine one_ (i := 7) (N := some 17) #[true, true, true, true, true, true, true, true, false, false, true, true, true, false, false] rfl rfl (one_of HT_.out (by kernel_rfl)) (by decide) (fun K hK => ?_)
              refine Kd.R_lit_step (Kd.int .u8) _ 5 ?hg (N := 17) ?hd (xs := ([(wrap64 (65 + (Int.tmod (wrap64 (a0_1 - 1)) 26))) % 256] : List Int)) (inner := [.int .u8 ((wrap64 (65 + (Int.tmod (wrap64 (a0_1 - 1)) 26))) % 256)]) (ok := fun _ => True) (okp := fun _ => True) ?hr ?hp (fun _ hk => hk) trivial (Below.refl _ _) (Nat.le_refl _) (by simp) ?_; (case hd => rfl); (case hg => rfl); (case hr => first | (go_simp; done) | (go_simp; rfl)); (case hp => exact (Reps.one (show Kd.M (Kd.int .u8) _ _ _ ((wrap64 (65 + (Int.tmod (wrap64 (a0_1 - 1)) 26))) % 256) [.int .u8 ((wrap64 (65 + (Int.tmod (wrap64 (a0_1 - 1)) 26))) % 256)] from rfl) (Reps.none _ _)))
              intro v120 w27 ho28 hb hg_ hnew_
              clear hg_ hnew_
              (first | rw [← Ny119.out] at ho28 | (simp only [Int.reduceToNat] at ho28; rw [← Ny119.out] at ho28))
              have n0_ := Aside0.mk (Kd.R_lower ho28 (below_size zz4))
              have n1_ := Aside0.mk (blk_below (g := gb113) (o := .cells #[.int .i64 a0_0, .int .i64 a0_1] 26 (0, 0)) (zB BK113.out) hb)
              have n2_ := Aside0.mk (below_step zz4 hb)
              clear BK113
              clear HB
              have HO121 := n0_
              have BK113 := n1_
              have HB := n2_
              clear n0_ n1_ n2_
              clear hb ho28
              refine hK.out _ _ ⟨(blk_cell BK113.out 0).trans rfl, (blk_cell BK113.out 1).trans rfl⟩ (fun hHeld => ?_)
              clear hK K
              refine norm_ (a' := ?_) ?_ ?_
              rotate_left
              · show Act.put _ (some 17) _ = _
                simp only [Act.put, List.setIfInBounds_toArray, List.set_cons_zero, List.set_cons_succ, i64_w, i32_w]
                rfl
              refine one_ (i := 8) (N := some 18) #[true, true, true, true, true, true, true, true, true, false, true, true, true, false, false] rfl rfl (one_of HT_.out (by kernel_rfl)) (by decide) (fun K hK => ?_)
              have hcv29 := own_string (P := Tryz.prog) Tryz.underlying35 Tryz.underlying5 Tryz.underlying9 (Kd.own_of_R HO121.out)
              refine value_ (w1 := ?_) (v := ?_) (by rfl) rfl ?_ ?_
              rotate_left 2
              · go_simp
                constructor
                · rfl
                · rfl
              clear hcv29
              refine hK.out _ _ ⟨(blk_cell BK113.out 0).trans rfl, (blk_cell BK113.out 1).trans rfl⟩ (fun hHeld => ?_)
              clear hK K
              refine norm_ (a' := ?_) ?_ ?_
              rotate_left
              · show Act.put _ (some 18) _ = _
                simp only [Act.put, List.setIfInBounds_toArray, List.set_cons_zero, List.set_cons_succ, i64_w, i32_w]
                rfl
              refine pure_ (i := 9) (N := some 19) (v := ?_) (a' := ?_) #[true, true, true, true, true, true, true, true, true, true, true, true, true, false, false] rfl rfl (any_of HT_.out (by kernel_rfl)) (fun _ _ _ h => h) (Or.inl ⟨by rfl, ?_⟩) ?_ ?_
              rotate_left
              · intro w'
                go_simp
                with_reducible rfl
              rotate_left
              · simp only [Act.put, List.setIfInBounds_toArray, List.set_cons_zero, List.set_cons_succ, i64_w, i32_w]
                rfl
              exact norm_ (by simp only [putAll, Act.put, List.setIfInBounds_toArray, List.set_cons_zero, List.set_cons_succ]) (hCont (v120) _ ⟨hHeld, (by (with_reducible repeat (first | apply Kd.R_alloc | apply Kd.R_drewN | apply Kd.R_drew)); exact HO121.out), (zB BK113.out), zz4⟩)
          rintro v120 w30 ⟨hS_, h0_, h1_, h2_⟩
          have n0_ : Aside0 (Kd.R (Kd.int .u8) 5 w30 w.heap.size (fun _ => True) v120 y119) := ⟨h0_⟩
          have n1_ : Aside0 (w30.heap[gb113]? = some (.cells #[.int .i64 a0_0, .int .i64 a0_1] 26 (0, 0))) := ⟨h1_⟩
          have n2_ : Aside0 (Below w.heap.size w w30) := ⟨h2_⟩
          clear BK113
          clear HB
          clear h0_ h1_ h2_
          have HO121 := n0_
          have BK113 := n1_
          have HB := n2_
          clear n0_ n1_ n2_
          have hHeld : w30.cell? ⟨gb113, 0, none⟩ = some (.int .i64 a0_0) ∧ w30.cell? ⟨gb113, 1, none⟩ = some (.int .i64 a0_1) := hS_
          refine norm_ (a' := ?_) ?_ ?_
          rotate_left
          · simp only [putAll, Act.put, List.setIfInBounds_toArray, List.set_cons_zero, List.set_cons_succ]
            rfl
          refine pure_ (i := 13) (N := some 23) (v := ?_) (a' := ?_) #[true, true, true, true, true, true, true, true, true, true, true, true, true, true, false] rfl rfl (any_of HT_.out (by kernel_rfl)) (fun _ _ _ h => h) (Or.inl ⟨by rfl, ?_⟩) ?_ ?_
          rotate_left
          · intro w'
            go_simp
            with_reducible rfl
          rotate_left
          · simp only [Act.put, List.setIfInBounds_toArray, List.set_cons_zero, List.set_cons_succ, i64_w, i32_w]
            rfl
          refine pure_ (i := 14) (N := some 2) (v := ?_) (a' := ?_) #[true, true, true, true, true, true, true, true, true, true, true, true, true, true, true] rfl rfl (any_of HT_.out (by kernel_rfl)) (fun _ _ _ h => h) (Or.inl ⟨by rfl, ?_⟩) ?_ ?_
          rotate_left
          · intro w'
            go_simp
            with_reducible rfl
          rotate_left
          · simp only [Act.put, List.setIfInBounds_toArray, List.set_cons_zero, List.set_cons_succ, i64_w, i32_w]
            rfl
          refine done_ (done_of HT_.out (by kernel_rfl)) ?_
          try go_wp2
          go_ret
          exact ⟨zz26, zz4⟩
        · rw [if_neg c20] at H
          exact absurd H (by simp)
      · rw [if_neg c18] at H
        exact absurd H (by simp)
  · replace c3 := Bool.eq_false_iff.mpr c3
    subst c3
    have H1 : (some (⟨#[]⟩ : ByteArray)) = some r := by rw [if_neg (show ¬ (false = true) by decide)] at H; exact H
    clear H
    have H := H1
    clear H1
    obtain rfl := Option.some.inj H
    go_enter Tryz.func29, Tryz.ntmps29
    go_wp2_with (first | ((with_reducible refine gate_dst (N := 1) rfl ?_); refine box_event ?hg (N := 1) ?hd (cs := #[.int .i64 a0_0, .int .i64 a0_1]) (t := 26) ?hr ?_; (case hd => rfl); (case hg => rfl); (case hr => first | (go_simp; done) | (go_simp; rfl)); intro gb113 hg w31 hbox hb; have n0_ := Aside0.mk (below_step zz1 hb); have n1_ := Aside0.mk (hbox); have n2_ := Aside0.mk ((by rw [hg]; exact (below_size zz1) : w.heap.size ≤ gb113)); have n3_ := n2_; clear HB; have HB := n0_; have BK113 := n1_; have GW113 := n2_; have GE113 := n3_; clear n0_ n1_ n2_ n3_; clear hb hbox hg; obtain ⟨_, _, _, _⟩ := zC2 BK113.out) | ((with_reducible refine gate_callee (f := 48) rfl ?_); refine goesL_ (some 5) rfl rfl Tryz.func48 (by kernel_rfl) rfl #[.agg #[.int .i64 a0_0, .int .i64 a0_1]] rfl zz25 ?_; (with_reducible refine (addr_Good.calls a0_0 a0_1 false _ A2.out).mono ?_); rintro e w33 ⟨rfl, hb⟩; refine ⟨_, rfl, ?_⟩; have n0_ := Aside0.mk (blk_below (g := gb113) (o := .cells #[.int .i64 a0_0, .int .i64 a0_1] 26 (0, 0)) (zB BK113.out) hb); have n1_ := Aside0.mk (below_step zz4 hb); clear BK113; clear HB; have BK113 := n0_; have HB := n1_; clear n0_ n1_; (try clear hb); (try clear hb2); (try clear hk); (try clear hi)))
    go_ret
    exact ⟨zz26, zz4⟩
end Go.Proofs.YtnomfbmebafolaaGreatDoor.P

namespace Go.Proofs.YtnomfbmebafolaaGreatDoor.P
open Go.RowKit Go.Proofs.YtnomfbmebafolaaGreatDoorW.PrintWords Go.Proofs.YtnomfbmebafolaaGreatDoorW.PrintLast Go.Proofs.YtnomfbmebafolaaGreatDoorW.PrintMore
open M (fit I64 u64w dig itoaF)
set_option linter.unusedVariables false
set_option linter.unusedSimpArgs false
def cellB (r c : Int) : Bool := decide (1 ≤ r) && decide (r ≤ 1000) && decide (1 ≤ c) && decide (c ≤ 50)
theorem cellB_iff (r c : Int) : cellB r c = true ↔ (1 ≤ r ∧ r ≤ 1000 ∧ 1 ≤ c ∧ c ≤ 50) := by unfold cellB; simp [and_assoc]
theorem good_eq (r c : Int) : addr_Good.f r c = some (cellB r c) := by
  unfold addr_Good.f cellB
  by_cases h1 : r ≥ 1 <;> by_cases h2 : r ≤ 1000 <;> by_cases h3 : c ≥ 1 <;> simp [h1, h2, h3] <;> omega
def colName (c : Int) : List UInt8 := if c ≤ 26 then [UInt8.ofNat (64 + c.toNat)] else [65, UInt8.ofNat (38 + c.toNat)]
def nameS (r c : Int) : List UInt8 := if cellB r c = true then colName c ++ itoaF r else []
theorem strOfNums_one (n : Int) (h0 : 0 ≤ n) (h1 : n ≤ 255) : strOfNums [n] = ⟨[UInt8.ofNat n.toNat].toArray⟩ := by
  unfold strOfNums; simp
theorem itoa_len (a : Int) : (itoaF a).length ≤ 21 := by
  unfold itoaF
  have h1 := M.dig_length 20 a.natAbs
  have h2 := M.dig_length 20 a.toNat
  split <;> simp <;> omega
theorem bsa (l m : List UInt8) : (⟨l.toArray⟩ : ByteArray) ++ ⟨m.toArray⟩ = ⟨(l ++ m).toArray⟩ := by
  apply ByteArray.ext; simp [ByteArray.data_append]
theorem bsz (l : List UInt8) : (⟨l.toArray⟩ : ByteArray).size = l.length := rfl
theorem name_eq (r c : Int) : addr_Name.f r c = some ⟨(nameS r c).toArray⟩ := by
  unfold addr_Name.f nameS
  rw [good_eq, Option.bind_some]
  by_cases h : cellB r c = true
  · have hc := (cellB_iff r c).1 h
    have hl := itoa_len r
    rw [if_pos h, if_pos h]
    have hi : strconv_Itoa.f r = some ⟨(itoaF r).toArray⟩ := by unfold strconv_Itoa.f; rw [if_pos (by omega)]
    have hw : wrap64 (c - 1) = c - 1 := M.wrap64_id (by unfold I64; omega)
    unfold colName
    by_cases h26 : c > 26
    · have e : wrap64 (65 + Int.tmod (c - 1) 26) % 256 = 38 + c := by
        rw [Int.tmod_eq_emod_of_nonneg (by omega), M.wrap64_id (by unfold I64; omega)]; omega
      rw [if_pos h26, hw, e, Option.bind_some, strOfNums_one _ (by omega) (by omega), if_pos (by rw [bsz]; simp), hi, Option.bind_some]
      rw [show (⟨#[65]⟩ : ByteArray) = ⟨[(65 : UInt8)].toArray⟩ from rfl, bsa, bsa, if_pos (by rw [bsz, bsz]; simp; omega), show (38 + c).toNat = 38 + c.toNat by omega, if_neg (by omega)]
      rfl
    · have e : wrap64 (65 + Int.tmod (c - 1) 26) % 256 = 64 + c := by
        rw [Int.tmod_eq_emod_of_nonneg (by omega), M.wrap64_id (by unfold I64; omega)]; omega
      rw [if_neg h26, hw, e, Option.bind_some, strOfNums_one _ (by omega) (by omega), if_pos (by rw [bsz]; simp), hi, Option.bind_some]
      rw [show (⟨#[]⟩ : ByteArray) = ⟨([] : List UInt8).toArray⟩ from rfl, bsa, bsa, if_pos (by rw [bsz, bsz]; simp; omega), show (64 + c).toNat = 64 + c.toNat by omega, if_pos (by omega)]
      rfl
  · rw [if_neg h, if_neg h]
def ap : List UInt8 → Int → Int → Option (Int × Int)
  | [], row, col => some (row, col)
  | c :: r, row, col =>
    if 65 ≤ c.toNat ∧ c.toNat ≤ 90 ∧ row = 0 ∧ col ≤ 26 then ap r row (col * 26 + ((c.toNat : Int) - 65) + 1)
    else if 48 ≤ c.toNat ∧ c.toNat ≤ 57 then ap r (row * 10 + ((c.toNat : Int) - 48)) col
    else none
theorem decode_big (s : ByteArray) (i : Nat) (h : 128 ≤ (s.get! i).toNat) : 128 ≤ (Utf8.decode s i).1 ∧ (Utf8.decode s i).1 ≤ 1114111 := by
  unfold Utf8.decode
  simp only [Nat.add_zero]
  have b1 := (s.get! (i + 1)).toNat_lt
  have b2 := (s.get! (i + 2)).toNat_lt
  have b3 := (s.get! (i + 3)).toNat_lt
  have b0 := (s.get! i).toNat_lt
  rw [if_neg (by omega)]
  split
  · split
    · simp; omega
    · decide
  · split
    · split
      · rename_i hh; simp at hh; simp; omega
      · decide
    · split
      · split
        · rename_i hh; simp [Utf8.valid] at hh; simp; omega
        · decide
      · decide
end Go.Proofs.YtnomfbmebafolaaGreatDoor.P

namespace Go.Proofs.YtnomfbmebafolaaGreatDoor.P
open Go.RowKit Go.Proofs.YtnomfbmebafolaaGreatDoorW.PrintWords Go.Proofs.YtnomfbmebafolaaGreatDoorW.PrintLast Go.Proofs.YtnomfbmebafolaaGreatDoorW.PrintMore
open M (fit I64 u64w dig itoaF)
set_option linter.unusedVariables false
set_option linter.unusedSimpArgs false
def parseS (l : List UInt8) : Int × Int × Bool :=
  if 6 < l.length then (0, 0, false)
  else match ap l 0 0 with
    | none => (0, 0, false)
    | some (r, c) => if cellB r c = true ∧ nameS r c = l then (r, c, true) else (0, 0, false)
def addr_Parse.f (a0 : ByteArray) : Option (Int × Int × Bool) := if a0.size ≤ 9223372036854775807 then some (parseS a0.data.toList) else none
set_option maxRecDepth 100000 in
theorem parse_long (s : ByteArray) (hs : s.size ≤ 9223372036854775807) (h : 6 < s.size) (w : World) :
    Calls Tryz.prog 140 #[.string s] w fun e w' => e = .returned (.tuple #[.agg #[.int .i64 0, .int .i64 0], .bool false]) ∧ Below w.heap.size w w' := by
  have h6 : decide ((6 : Int) < (s.size : Int)) = true := decide_eq_true (by omega)
  have hu23 := Tryz.underlying26
  go_enter Tryz.func140, Tryz.ntmps140
  go_wp2_with fail
  refine bodyPost_ret (v := .tuple #[.agg #[.int .i64 0, .int .i64 0], .bool false]) (by simp [results, Tryz.results140, go_sem, hu23]) rfl ⟨rfl, ?_⟩
  exact ((Below.refl _ _).alloc (Nat.le_refl _) _).alloc (by simp) _
def lim : Nat → Int
  | 0 => 1
  | n + 1 => 10 * lim n
theorem lim_le (n : Nat) (h : n ≤ 6) : lim n ≤ 1000000 := by
  have : ∀ k : Fin 7, lim k.val ≤ 1000000 := by decide
  exact this ⟨n, by omega⟩
theorem lim_step (n : Nat) : lim (n + 1) = 10 * lim n := rfl
theorem far_iter {w : World} {g : Nat} {o : Obj} (h : w.heap[g]? = some o) {p : Addr} (hp : g ≠ p.block) (u : Value) : (w.setCell p u).heap[g]? = some o := (Below.heap_setCell w p u g hp).trans h
theorem iterPos_of {w : World} {k : Nat} {s : ByteArray} {p : Nat} (h : w.heap[k]? = some (.stringIter s p)) : w.iterPos k = p := by simp [World.iterPos, h]
set_option maxHeartbeats 2000000 in
set_option maxRecDepth 100000 in
theorem parse_short (s : ByteArray) (h : s.size ≤ 6) (x : Int × Int × Bool) (hx : parseS s.data.toList = x) (w : World) (hG : G1 w) :
    Calls Tryz.prog 140 #[.string s] w fun e w' => e = .returned (.tuple #[.agg #[.int .i64 x.1, .int .i64 x.2.1], .bool x.2.2]) ∧ Below w.heap.size w w' := by
  have h6 : decide ((6 : Int) < (s.size : Int)) = false := decide_eq_false (by omega)
  have hu23 := Tryz.underlying26
  have hlen : s.data.toList.length = s.size := by simp
  have HX := Lib.hid hx
  have HG := Lib.hid hG
  clear hx hG
  go_enter Tryz.func140, Tryz.ntmps140
  go_wp2_with fail
  go_loopw [6] (fun _ wr => ∃ pos : Nat, ∃ row col : Int, pos ≤ s.size ∧ 0 ≤ row ∧ row < lim pos ∧ 0 ≤ col ∧ col ≤ 702 ∧ Hid (ap (s.data.toList.drop pos) row col = ap s.data.toList 0 0) ∧
      wr.heap[w.heap.size]? = some (.cells #[.int .i64 0, .int .i64 0] 26 (0, 0)) ∧ wr.heap[w.heap.size + 1]? = some (.cells #[.int .i64 row, .int .i64 col] 26 (0, 0)) ∧ wr.heap[w.heap.size + 1 + 1]? = some (.stringIter s pos) ∧ Below w.heap.size w wr)
    (fun _ wr => s.size - wr.iterPos (w.heap.size + 1 + 1))
  case atStart =>
    refine ⟨0, 0, 0, Nat.zero_le _, by omega, by decide, by omega, by omega, Lib.hid rfl, ?_, ?_, ?_, ?_⟩
    · exact blk_alloc (blk_alloc (blk_new _ _) _) _
    · have := blk_alloc (blk_new (w.alloc (.cells #[.int .i64 0, .int .i64 0] 26)) (.cells #[.int .i64 0, .int .i64 0] 26)) (.stringIter s 0)
      simpa [World.iter] using this
    · have := World.iter_heap ((w.alloc (.cells #[.int .i64 0, .int .i64 0] 26)).alloc (.cells #[.int .i64 0, .int .i64 0] 26)) s 0
      simpa using this
    · exact (((Below.refl _ w).alloc (Nat.le_refl _) _).alloc (by simp) _).alloc (by simp; omega) _
  case round =>
    obtain ⟨pos, row, col, hps, hr0, hr1, hc0, hc1, HA, hb0, hb1, hit, hbel⟩ := hrel
    have hl6 := lim_le pos (by omega)
    by_cases hp : pos < s.size
    · have hlt : pos < s.data.toList.length := by omega
      have hdrop : s.data.toList.drop pos = s[pos]'hp :: s.data.toList.drop (pos + 1) := by
        rw [List.drop_eq_getElem_cons hlt]; rfl
      have hmu : wr.iterPos (w.heap.size + 1 + 1) = pos := by simp [World.iterPos, hit]
      by_cases h128 : 128 ≤ (s[pos]'hp).toNat
      · have hnext : ∀ ty, (Instr.next (.pointer (some ⟨w.heap.size + 1 + 1, 0, none⟩)) true ty).run Tryz.prog wr = _ := fun ty => Lib.run_next_any_at wr (w.heap.size + 1 + 1) s pos ty hit hp
        have hbig := decode_big s pos (by have e : s.get! pos = s[pos]'hp := by simp [ByteArray.get!, hp]; rfl
                                          rw [e]; exact h128)
        obtain ⟨R, hR⟩ : ∃ R : Int, ((Utf8.decode s pos).1 : Int) = R := ⟨_, rfl⟩
        have hR0 : 128 ≤ R := by omega
        have hR1 : R ≤ 1114111 := by omega
        rw [hR] at hnext
        clear hR hbig
        have o0 := Lib.iterAt_other wr (w.heap.size + 1 + 1) w.heap.size s (pos + (Utf8.decode s pos).2) (by omega)
        have o1 := Lib.iterAt_other wr (w.heap.size + 1 + 1) (w.heap.size + 1) s (pos + (Utf8.decode s pos).2) (by omega)
        have g0 := o0.trans hb0
        have g1 := o1.trans hb1
        have hit1 := Lib.iterAt_heap wr (w.heap.size + 1 + 1) s pos (pos + (Utf8.decode s pos).2) hit
        have hbel1 : Below w.heap.size w (wr.iterAt (w.heap.size + 1 + 1) s (pos + (Utf8.decode s pos).2)) := Lib.below_iterAt hbel (by omega) s _
        generalize wr.iterAt (w.heap.size + 1 + 1) s (pos + (Utf8.decode s pos).2) = W1 at hnext g0 g1 hit1 hbel1
        clear o0 o1 hb0 hb1 hit
        have G0 := Lib.hid g0
        have G1' := Lib.hid g1
        have HIT := Lib.hid hit1
        have c0 : W1.cell? ⟨w.heap.size + 1, 0, none⟩ = some (.int .i64 row) := (blk_cell g1 0).trans rfl
        have c1 : W1.cell? ⟨w.heap.size + 1, 1, none⟩ = some (.int .i64 col) := (blk_cell g1 1).trans rfl
        have f0 := blk_frozen g1 0
        have f1 := blk_frozen g1 1
        have z0 : W1.cell? ⟨w.heap.size, 0, none⟩ = some (.int .i64 0) := (blk_cell g0 0).trans rfl
        have z1 : W1.cell? ⟨w.heap.size, 1, none⟩ = some (.int .i64 0) := (blk_cell g0 1).trans rfl
        have y0 := blk_frozen g0 0
        have y1 := blk_frozen g0 1
        clear g0 g1 hit1
        have hnone : ap s.data.toList 0 0 = none := by
          rw [← HA.out, hdrop, ap, if_neg (by omega), if_neg (by omega)]
        obtain rfl : x = (0, 0, false) := by
          rw [← HX.out]; unfold parseS; rw [if_neg (by omega), hnone]
        clear hnone hdrop HA HX HG hlen hlt hps hl6
        go_wp2_with fail
        exact bodyPost_ret (v := .tuple #[.agg #[.int .i64 0, .int .i64 0], .bool false]) (by simp [results, Tryz.results140, go_sem, hu23, z0, z1]) rfl ⟨rfl, below_set (below_set hbel1 (Nat.le_refl _)) (Nat.le_refl _)⟩
      · have hnext : ∀ ty, (Instr.next (.pointer (some ⟨w.heap.size + 1 + 1, 0, none⟩)) true ty).run Tryz.prog wr = _ := fun ty => Lib.run_next_ascii_at wr (w.heap.size + 1 + 1) s pos ty hit hp (by omega)
        obtain ⟨n, hn⟩ : ∃ n : Nat, (s[pos]'hp).toNat = n := ⟨_, rfl⟩
        rw [hn] at hnext h128
        have o0 := Lib.iterAt_other wr (w.heap.size + 1 + 1) w.heap.size s (pos + 1) (by omega)
        have o1 := Lib.iterAt_other wr (w.heap.size + 1 + 1) (w.heap.size + 1) s (pos + 1) (by omega)
        have g0 := o0.trans hb0
        have g1 := o1.trans hb1
        have hit1 := Lib.iterAt_heap wr (w.heap.size + 1 + 1) s pos (pos + 1) hit
        have hbel1 : Below w.heap.size w (wr.iterAt (w.heap.size + 1 + 1) s (pos + 1)) := Lib.below_iterAt hbel (by omega) s _
        generalize wr.iterAt (w.heap.size + 1 + 1) s (pos + 1) = W1 at hnext g0 g1 hit1 hbel1
        clear o0 o1 hb0 hb1 hit
        have G0 := Lib.hid g0
        have G1' := Lib.hid g1
        have HIT := Lib.hid hit1
        have c0 : W1.cell? ⟨w.heap.size + 1, 0, none⟩ = some (.int .i64 row) := (blk_cell g1 0).trans rfl
        have c1 : W1.cell? ⟨w.heap.size + 1, 1, none⟩ = some (.int .i64 col) := (blk_cell g1 1).trans rfl
        have f0 := blk_frozen g1 0
        have f1 := blk_frozen g1 1
        have z0 : W1.cell? ⟨w.heap.size, 0, none⟩ = some (.int .i64 0) := (blk_cell g0 0).trans rfl
        have z1 : W1.cell? ⟨w.heap.size, 1, none⟩ = some (.int .i64 0) := (blk_cell g0 1).trans rfl
        have y0 := blk_frozen g0 0
        have y1 := blk_frozen g0 1
        clear g0 g1 hit1
        by_cases hL : 65 ≤ n ∧ n ≤ 90 ∧ row = 0 ∧ col ≤ 26
        · obtain ⟨l1, l2, l3, l4⟩ := hL
          have r0 : (row == 0) = true := by simpa using l3
          have hstep : ap (s.data.toList.drop (pos + 1)) row (col * 26 + ((n : Int) - 65) + 1) = ap s.data.toList 0 0 := by
            rw [← HA.out, hdrop, ap, hn, if_pos ⟨l1, l2, l3, l4⟩]
          have HS := Lib.hid hstep
          clear hstep hdrop HA hn l3
          go_wp2_with fail
          go_roundw
          case rel =>
            refine ⟨pos + 1, row, col * 26 + ((n : Int) - 65) + 1, by omega, hr0, by have := lim_step pos; omega, by omega, by omega, HS, ?_, ?_, ?_, ?_⟩
            · exact blk_far G0.out (by simp) _
            · exact blk_put G1'.out 1 _ (by simp)
            · exact far_iter HIT.out (by simp) _
            · exact below_set hbel1 (by omega)
          case measure =>
            rw [hmu, iterPos_of (far_iter HIT.out (by simp) _)]
            omega
        · by_cases hD : 48 ≤ n ∧ n ≤ 57
          · obtain ⟨l1, l2⟩ := hD
            have hstep : ap (s.data.toList.drop (pos + 1)) (row * 10 + ((n : Int) - 48)) col = ap s.data.toList 0 0 := by
              rw [← HA.out, hdrop, ap, hn, if_neg (by omega), if_pos ⟨l1, l2⟩]
            have HS := Lib.hid hstep
            clear hstep hdrop HA hn hL
            go_wp2_with fail
            go_roundw
            case rel =>
              refine ⟨pos + 1, row * 10 + ((n : Int) - 48), col, by omega, by omega, by have := lim_step pos; omega, hc0, hc1, HS, ?_, ?_, ?_, ?_⟩
              · exact blk_far G0.out (by simp) _
              · exact blk_put G1'.out 0 _ (by simp)
              · exact far_iter HIT.out (by simp) _
              · exact below_set hbel1 (by omega)
            case measure =>
              rw [hmu, iterPos_of (far_iter HIT.out (by simp) _)]
              omega
          · rw [← hn] at hL hD
            have hnone : ap s.data.toList 0 0 = none := by
              rw [← HA.out, hdrop, ap, if_neg (by omega), if_neg (by omega)]
            obtain rfl : x = (0, 0, false) := by
              rw [← HX.out]; unfold parseS; rw [if_neg (by omega), hnone]
            clear hnone hdrop HA HX HG hlen hlt hps hl6
            rw [hn] at hL hD
            have hE : n < 48 ∨ (57 < n ∧ n < 65) ∨ 90 < n ∨ (65 ≤ n ∧ n ≤ 90 ∧ row ≠ 0) ∨ (65 ≤ n ∧ n ≤ 90 ∧ row = 0 ∧ 26 < col) := by omega
            clear hL hD hn
            rcases hE with e1 | ⟨e1, e2⟩ | e1 | ⟨e1, e2, e3⟩ | ⟨e1, e2, e3, e4⟩
            · go_wp2_with fail
              exact bodyPost_ret (v := .tuple #[.agg #[.int .i64 0, .int .i64 0], .bool false]) (by simp [results, Tryz.results140, go_sem, hu23, z0, z1]) rfl ⟨rfl, below_set (below_set hbel1 (Nat.le_refl _)) (Nat.le_refl _)⟩
            · go_wp2_with fail
              exact bodyPost_ret (v := .tuple #[.agg #[.int .i64 0, .int .i64 0], .bool false]) (by simp [results, Tryz.results140, go_sem, hu23, z0, z1]) rfl ⟨rfl, below_set (below_set hbel1 (Nat.le_refl _)) (Nat.le_refl _)⟩
            · go_wp2_with fail
              exact bodyPost_ret (v := .tuple #[.agg #[.int .i64 0, .int .i64 0], .bool false]) (by simp [results, Tryz.results140, go_sem, hu23, z0, z1]) rfl ⟨rfl, below_set (below_set hbel1 (Nat.le_refl _)) (Nat.le_refl _)⟩
            · have r0 : (row == 0) = false := by simpa using e3
              clear e3
              go_wp2_with fail
              exact bodyPost_ret (v := .tuple #[.agg #[.int .i64 0, .int .i64 0], .bool false]) (by simp [results, Tryz.results140, go_sem, hu23, z0, z1]) rfl ⟨rfl, below_set (below_set hbel1 (Nat.le_refl _)) (Nat.le_refl _)⟩
            · have r0 : (row == 0) = true := by simpa using e3
              clear e3
              go_wp2_with fail
              exact bodyPost_ret (v := .tuple #[.agg #[.int .i64 0, .int .i64 0], .bool false]) (by simp [results, Tryz.results140, go_sem, hu23, z0, z1]) rfl ⟨rfl, below_set (below_set hbel1 (Nat.le_refl _)) (Nat.le_refl _)⟩
    · have he : pos = s.size := by omega
      have hnext : ∀ ty, (Instr.next (.pointer (some ⟨w.heap.size + 1 + 1, 0, none⟩)) true ty).run Tryz.prog wr = _ := fun ty => Lib.run_next_end_at wr (w.heap.size + 1 + 1) s pos ty hit hp
      have hap : ap s.data.toList 0 0 = some (row, col) := by
        rw [← HA.out, List.drop_of_length_le (by omega)]; rfl
      have hxx : x = if cellB row col = true ∧ nameS row col = s.data.toList then (row, col, true) else (0, 0, false) := by
        rw [← HX.out]; unfold parseS; rw [if_neg (by omega), hap]
      have B0 := Lib.hid hb0
      have B1 := Lib.hid hb1
      have HBEL := Lib.hid hbel
      have c0 : wr.cell? ⟨w.heap.size + 1, 0, none⟩ = some (.int .i64 row) := (blk_cell hb1 0).trans rfl
      have c1 : wr.cell? ⟨w.heap.size + 1, 1, none⟩ = some (.int .i64 col) := (blk_cell hb1 1).trans rfl
      have f0 := blk_frozen (hb1) 0
      have f1 := blk_frozen (hb1) 1
      have z0 : wr.cell? ⟨w.heap.size, 0, none⟩ = some (.int .i64 0) := (blk_cell hb0 0).trans rfl
      have z1 : wr.cell? ⟨w.heap.size, 1, none⟩ = some (.int .i64 0) := (blk_cell hb0 1).trans rfl
      have y0 := blk_frozen (hb0) 0
      have y1 := blk_frozen (hb0) 1
      clear HA HX hap hlen hps hl6 hb0 hb1 hbel he hp hit
      cases hcb : cellB row col
      · rw [hcb, if_neg (by simp)] at hxx
        subst hxx
        have HGD := Lib.hid (good_eq row col)
        rw [hcb] at HGD
        clear hcb
        go_wp2_with (go_at_call 48; (with_reducible refine (addr_Good.calls row col false _ HGD.out).mono ?_); rintro e w1 ⟨rfl, hbb1⟩; have d0 := Lib.hid (blk_below B0.out hbb1); have d1 := Lib.hid (blk_below B1.out hbb1); have c0a : w1.cell? ⟨w.heap.size + 1, 0, none⟩ = some (.int .i64 row) := (blk_cell d1.out 0).trans rfl; have c1a : w1.cell? ⟨w.heap.size + 1, 1, none⟩ = some (.int .i64 col) := (blk_cell d1.out 1).trans rfl; have f0a := blk_frozen (d1.out) 0; have f1a := blk_frozen (d1.out) 1; have z0a : w1.cell? ⟨w.heap.size, 0, none⟩ = some (.int .i64 0) := (blk_cell d0.out 0).trans rfl; have z1a : w1.cell? ⟨w.heap.size, 1, none⟩ = some (.int .i64 0) := (blk_cell d0.out 1).trans rfl; have y0a := blk_frozen (d0.out) 0; have y1a := blk_frozen (d0.out) 1)
        exact bodyPost_ret (v := .tuple #[.agg #[.int .i64 0, .int .i64 0], .bool false]) (by simp [results, Tryz.results140, go_sem, hu23, z0a, z1a]) rfl ⟨rfl, below_set (below_set (HBEL.out.trans (hbb1.mono HBEL.out.size)) (Nat.le_refl _)) (Nat.le_refl _)⟩
      · have HGD := Lib.hid (good_eq row col)
        rw [hcb] at HGD
        by_cases hnm : nameS row col = s.data.toList
        · rw [hcb, if_pos ⟨rfl, hnm⟩] at hxx
          subst hxx
          have hq : (!(nameS row col == s.toList)) = false := by rw [ByteArray.toList_eq]; simp [hnm]
          clear hcb hnm
          go_wp2_with (first | (go_at_call 48; (with_reducible refine (addr_Good.calls row col true _ HGD.out).mono ?_); rintro e w1 ⟨rfl, hbb1⟩; have d0 := Lib.hid (blk_below B0.out hbb1); have d1 := Lib.hid (blk_below B1.out hbb1); have c0a : w1.cell? ⟨w.heap.size + 1, 0, none⟩ = some (.int .i64 row) := (blk_cell d1.out 0).trans rfl; have c1a : w1.cell? ⟨w.heap.size + 1, 1, none⟩ = some (.int .i64 col) := (blk_cell d1.out 1).trans rfl; have f0a := blk_frozen (d1.out) 0; have f1a := blk_frozen (d1.out) 1; have z0a : w1.cell? ⟨w.heap.size, 0, none⟩ = some (.int .i64 0) := (blk_cell d0.out 0).trans rfl; have z1a : w1.cell? ⟨w.heap.size, 1, none⟩ = some (.int .i64 0) := (blk_cell d0.out 1).trans rfl; have y0a := blk_frozen (d0.out) 0; have y1a := blk_frozen (d0.out) 1) | (go_at_call 29; (with_reducible refine (addr_Name.calls row col _ _ (gl_1_1 (HBEL.out.trans (hbb1.mono HBEL.out.size)) HG.out) (name_eq row col)).mono ?_); rintro e w2 ⟨rfl, hbb2⟩; have e0 := Lib.hid (blk_below d0.out hbb2); have e1 := Lib.hid (blk_below d1.out hbb2); have c0b : w2.cell? ⟨w.heap.size + 1, 0, none⟩ = some (.int .i64 row) := (blk_cell e1.out 0).trans rfl; have c1b : w2.cell? ⟨w.heap.size + 1, 1, none⟩ = some (.int .i64 col) := (blk_cell e1.out 1).trans rfl; have f0b := blk_frozen (e1.out) 0; have f1b := blk_frozen (e1.out) 1; have z0b : w2.cell? ⟨w.heap.size, 0, none⟩ = some (.int .i64 0) := (blk_cell e0.out 0).trans rfl; have z1b : w2.cell? ⟨w.heap.size, 1, none⟩ = some (.int .i64 0) := (blk_cell e0.out 1).trans rfl; have y0b := blk_frozen (e0.out) 0; have y1b := blk_frozen (e0.out) 1))
          exact bodyPost_ret (v := .tuple #[.agg #[.int .i64 row, .int .i64 col], .bool true]) (by simp [results, Tryz.results140, go_sem, hu23, z0b, z1b]) rfl ⟨rfl, below_set (below_set ((HBEL.out.trans (hbb1.mono HBEL.out.size)).trans (hbb2.mono (HBEL.out.trans (hbb1.mono HBEL.out.size)).size)) (Nat.le_refl _)) (Nat.le_refl _)⟩
        · rw [hcb, if_neg (fun hh => hnm hh.2)] at hxx
          subst hxx
          have hq : (!(nameS row col == s.toList)) = true := by rw [ByteArray.toList_eq]; simp [hnm]
          clear hcb hnm
          go_wp2_with (first | (go_at_call 48; (with_reducible refine (addr_Good.calls row col true _ HGD.out).mono ?_); rintro e w1 ⟨rfl, hbb1⟩; have d0 := Lib.hid (blk_below B0.out hbb1); have d1 := Lib.hid (blk_below B1.out hbb1); have c0a : w1.cell? ⟨w.heap.size + 1, 0, none⟩ = some (.int .i64 row) := (blk_cell d1.out 0).trans rfl; have c1a : w1.cell? ⟨w.heap.size + 1, 1, none⟩ = some (.int .i64 col) := (blk_cell d1.out 1).trans rfl; have f0a := blk_frozen (d1.out) 0; have f1a := blk_frozen (d1.out) 1; have z0a : w1.cell? ⟨w.heap.size, 0, none⟩ = some (.int .i64 0) := (blk_cell d0.out 0).trans rfl; have z1a : w1.cell? ⟨w.heap.size, 1, none⟩ = some (.int .i64 0) := (blk_cell d0.out 1).trans rfl; have y0a := blk_frozen (d0.out) 0; have y1a := blk_frozen (d0.out) 1) | (go_at_call 29; (with_reducible refine (addr_Name.calls row col _ _ (gl_1_1 (HBEL.out.trans (hbb1.mono HBEL.out.size)) HG.out) (name_eq row col)).mono ?_); rintro e w2 ⟨rfl, hbb2⟩; have e0 := Lib.hid (blk_below d0.out hbb2); have e1 := Lib.hid (blk_below d1.out hbb2); have c0b : w2.cell? ⟨w.heap.size + 1, 0, none⟩ = some (.int .i64 row) := (blk_cell e1.out 0).trans rfl; have c1b : w2.cell? ⟨w.heap.size + 1, 1, none⟩ = some (.int .i64 col) := (blk_cell e1.out 1).trans rfl; have f0b := blk_frozen (e1.out) 0; have f1b := blk_frozen (e1.out) 1; have z0b : w2.cell? ⟨w.heap.size, 0, none⟩ = some (.int .i64 0) := (blk_cell e0.out 0).trans rfl; have z1b : w2.cell? ⟨w.heap.size, 1, none⟩ = some (.int .i64 0) := (blk_cell e0.out 1).trans rfl; have y0b := blk_frozen (e0.out) 0; have y1b := blk_frozen (e0.out) 1))
          exact bodyPost_ret (v := .tuple #[.agg #[.int .i64 0, .int .i64 0], .bool false]) (by simp [results, Tryz.results140, go_sem, hu23, z0b, z1b]) rfl ⟨rfl, below_set (below_set ((HBEL.out.trans (hbb1.mono HBEL.out.size)).trans (hbb2.mono (HBEL.out.trans (hbb1.mono HBEL.out.size)).size)) (Nat.le_refl _)) (Nat.le_refl _)⟩
theorem addr_Parse.calls (a0 : ByteArray) (r1 : Int) (r2 : Int) (r3 : Bool) (w : World) (hG : G1 w) (h : addr_Parse.f a0 = some (r1, r2, r3)) :
    Calls Tryz.prog 140 #[.string a0] w fun e w' => e = .returned (.tuple #[.agg #[.int .i64 r1, .int .i64 r2], .bool r3]) ∧ Below w.heap.size w w' := by
  unfold addr_Parse.f at h
  have hlen : a0.data.toList.length = a0.size := by simp
  split at h
  · rename_i hs
    have h := Option.some.inj h
    by_cases h6 : 6 < a0.size
    · have hx : parseS a0.data.toList = (0, 0, false) := by unfold parseS; rw [if_pos (by omega)]
      rw [hx] at h
      simp only [Prod.mk.injEq] at h
      obtain ⟨rfl, rfl, rfl⟩ := h
      exact parse_long a0 hs h6 w
    · exact parse_short a0 (by omega) (r1, r2, r3) h w hG
  · cases h
end Go.Proofs.YtnomfbmebafolaaGreatDoor.P

namespace Go.Proofs.YtnomfbmebafolaaGreatDoor.P
open Go.RowKit Go.Proofs.YtnomfbmebafolaaGreatDoorW.PrintWords Go.Proofs.YtnomfbmebafolaaGreatDoorW.PrintLast Go.Proofs.YtnomfbmebafolaaGreatDoorW.PrintMore
open M (I64)
set_option linter.unusedVariables false
set_option linter.unusedSimpArgs false
abbrev put2 (W : World) (g : Nat) (u0 u1 : Value) : World := (W.setCell ⟨g, 0, none⟩ u0).setCell ⟨g, 1, none⟩ u1
theorem put2_blk {W : World} {g : Nat} {t : TypeId} {v0 v1 : Value} (h : W.heap[g]? = some (.cells #[v0, v1] t (0, 0))) (u0 u1 : Value) : (put2 W g u0 u1).heap[g]? = some (.cells #[u0, u1] t (0, 0)) := by
  have h0 : (W.setCell ⟨g, 0, none⟩ u0).heap[g]? = some (.cells #[u0, v1] t (0, 0)) := blk_put h 0 u0 rfl
  have h1 : ((W.setCell ⟨g, 0, none⟩ u0).setCell ⟨g, 1, none⟩ u1).heap[g]? = some (.cells #[u0, u1] t (0, 0)) := blk_put h0 1 u1 rfl
  exact h1
theorem put2_old {W : World} {g k : Nat} (hk : k ≠ g) (u0 u1 : Value) : (put2 W g u0 u1).heap[k]? = W.heap[k]? := by
  have one : ∀ (V : World) (j : Nat) (u : Value), (V.setCell ⟨g, j, none⟩ u).heap[k]? = V.heap[k]? := fun V j u => Below.heap_setCell V ⟨g, j, none⟩ u k hk
  unfold put2
  rw [one, one]
theorem put2_bu {g gr : Nat} {W0 W : World} (h : Bu g W0 W) (hr : W0.heap.size ≤ gr) (u0 u1 : Value) : Bu g W0 (put2 W gr u0 u1) := by
  have one : ∀ (V : World) (j : Nat) (u : Value), Bu g W0 V → Bu g W0 (V.setCell ⟨gr, j, none⟩ u) := fun V j u hV =>
    ⟨hV.os, hV.tape, hV.output, by simpa [World.setCell] using hV.size, fun k hk hg => (Below.heap_setCell V ⟨gr, j, none⟩ u k (by show k ≠ gr; omega)).trans (hV.block k hk hg)⟩
  exact one _ 1 u1 (one _ 0 u0 h)
theorem put2_ps {g gr : Nat} {toks : List Tok} {en at_ : Int} {W : World} (h : PS g toks en at_ W) (hr : g < gr) (u0 u1 : Value) : PS g toks en at_ (put2 W gr u0 u1) := by
  obtain ⟨A, c, h1, h2, gw, h3, h4, h5⟩ := h
  exact ⟨A, c, (put2_old (by omega) ..).trans h1, Kd.F_step h2 (fun k hk _ => put2_old (by omega) ..), gw, h3, Below.of_bu (g := g) (put2_bu (g := g) (Bu.of_below h4) (by omega) ..) h5, h5⟩
theorem lo2 {g q : Nat} {o : Obj} {W X : World} (h : Bu g (W.alloc o) X) (hq : X.heap.size ≤ q) : W.heap.size < q := by
  have h1 := h.size
  have h2 : (W.alloc o).heap.size = W.heap.size + 1 := by simp
  omega
theorem Uq18 {p q : Prop} (h0 : p) (h : p → q := by intro h_; with_reducible repeat (first | exact h_ | refine PS.alloc ?_ _ | refine PS.drewN ?_ _ | refine PS.drew ?_ | refine PS.put (at_ := (n : Int)) ?_ _ | refine put2_ps ?_ HG.out _ _)) : q := h h0
theorem Uq19 {p q : Prop} (h0 : p) (h : p → q := by intro h_; with_reducible repeat (first | exact h_ | exact Bu.refl _ _ | refine Bu.to_alloc ?_ _ | refine Bu.to_drewN ?_ _ | refine Bu.to_drew ?_ | refine Bu.to_set ?_ _ _ | refine put2_bu ?_ (Nat.le_refl _) _ _)) : q := h h0
theorem Uq20 {p q : Prop} (h0 : p) (h : p → q := by intro h_; with_reducible repeat (first | exact put2_blk h_ _ _ | refine blk_alloc ?_ _)) : q := h h0
theorem Uq21 {p q : Prop} (h0 : p) (h : p → q := by intro h_; with_reducible repeat (first | exact h_ | refine blk_alloc ?_ _ | refine (put2_old (Nat.ne_of_gt HQ.out) _ _).trans ?_)) : q := h h0
theorem Uq22 {p q : Prop} (h0 : p) (h : p → q := by intro h_; with_reducible repeat (first | exact (Bu.alloc g W (adO 0 0)).trans h_ | refine Bu.to_alloc ?_ _ | refine Bu.to_drewN ?_ _ | refine Bu.to_drew ?_ | refine Bu.to_set ?_ _ _ | refine put2_bu ?_ (Nat.le_refl _) _ _)) : q := h h0
set_option maxHeartbeats 1600000 in
set_option maxRecDepth 100000 in
theorem cell_end (toks : List Tok) (en : Int) (n : Nat) (hlen : toks.length ≤ 1000000) (hn : n = toks.length) : CellBad toks en n (placeV toks en n) 13 n := by
  intro g W hp
  have hu := Tryz.underlying26
  have HG := Lib.hid hp.lt
  have HP0 := Lib.hid (hp.alloc (adO 0 0))
  have HB0 := Lib.hid (Bu.refl g (W.alloc (adO 0 0)))
  have BK0 := Lib.hid (blk_new W (adO 0 0))
  have HPW := Lib.hid hp
  have hg1 : (g = W.heap.size) = False := eq_false (Nat.ne_of_lt HG.out)
  have hg2 : (W.heap.size = g) = False := eq_false (Nat.ne_of_gt HG.out)
  have hg3 : g < W.heap.size := HG.out
  obtain ⟨At, ct, c0, c1, c2, z1, hbb, hF⟩ := hp.cells
  have hq : decide ((n : Int) < (toks.length : Int)) = false := decide_eq_false (by omega)
  have hq0 : decide (n < toks.length) = false := decide_eq_false (by omega)
  have hq00 : (n < toks.length) = False := eq_false (by omega)
  have HN := Lib.hid (Nat.le_of_eq hn)
  clear hp hbb hF hn hlen
  go_enter Tryz.func138, Tryz.ntmps138
  go_wp2
  repeat (go_quiet (fail); try go_wp2_with (first | (go_at_call 52; (with_reducible refine (fail_calls g toks en n HN.out _ ?sp).mono ?_); (case sp => exact (Uq18 HP0.out)); rintro e w1 ⟨q, rfl, he, hq, hbl⟩; have HE := Lib.hid he; have HQ := Lib.hid (lo2 (g := g) (o := adO 0 0) (W := W) (Uq19 HB0.out) hq); have hb := Bu.of_below (g := g) hbl; have hp := PS.below (g := g) (toks := toks) (en := en) (at_ := (n : Int)) (Uq18 HP0.out) hbl; clear he hq hbl; have HP1 := Lib.hid hp; have HB1 := Lib.hid (Bu.trans (g := g) (a := W.alloc (adO 0 0)) (Uq19 HB0.out) hb); have BK1 := Lib.hid (hb.blk (k := W.heap.size) (o := adO 0 0) (Uq15 BK0.out) (Nat.ne_of_gt HG.out)); clear hp hb; obtain ⟨⟨f0, f1⟩, y0, y1⟩ := zzT BK1.out; have hsz : W.heap.size < w1.heap.size := blk_lt BK1.out)))
  refine bodyPost_ret (results_ct rfl _ _ W.heap.size 26 _ (0, 0) _ rfl (Uq20 BK1.out) hu rfl (by kernel_rfl)) rfl ?_
  refine ⟨q, ?_, ?_, Nat.le_of_lt HQ.out, ?_, ?_⟩
  · rfl
  · exact (Uq21 HE.out)
  · exact (Uq18 HP1.out)
  · exact (Uq22 HB1.out)
set_option maxHeartbeats 1600000 in
set_option maxRecDepth 100000 in
theorem cell_kind (toks : List Tok) (en : Int) (n : Nat) (hlen : toks.length ≤ 1000000) (tk : Tok) (ht : toks[n]? = some tk) (hk : tk.f0 ≠ 3) : CellBad toks en n (placeV toks en n) 13 n := by
  intro g W hp
  have hu := Tryz.underlying26
  have HG := Lib.hid hp.lt
  have HP0 := Lib.hid (hp.alloc (adO 0 0))
  have HB0 := Lib.hid (Bu.refl g (W.alloc (adO 0 0)))
  have BK0 := Lib.hid (blk_new W (adO 0 0))
  have HPW := Lib.hid hp
  have hg1 : (g = W.heap.size) = False := eq_false (Nat.ne_of_lt HG.out)
  have hg2 : (W.heap.size = g) = False := eq_false (Nat.ne_of_gt HG.out)
  have hg3 : g < W.heap.size := HG.out
  obtain ⟨At, ct, c0, c1, c2, z1, hbb, hF⟩ := hp.cells
  obtain ⟨hn, ad, rfl, t0, t1, t2, t3⟩ := PS.tok' hF n tk ht
  have hq : decide ((n : Int) < (toks.length : Int)) = true := decide_eq_true (by omega)
  have hq0 : decide (n < toks.length) = true := decide_eq_true (by omega)
  have hq00 : (n < toks.length) = True := eq_true (by omega)
  have hq1 : ((0 : Int) ≤ (n : Int)) = True := eq_true (by omega)
  have hq2 : ((n : Int) < (toks.length : Int)) = True := eq_true (by omega)
  have w1 : IntKind.i64.wrap ((n : Int) + 1) = (n : Int) + 1 := by rw [i64_w, M.wrap64_id (by unfold I64; omega)]
  have hlt : (ad.add (n * 4)).block < W.heap.size := World.block_lt_of_cell? _ _ t0
  have HN := Lib.hid (Nat.le_of_lt hn)
  have HLEN := Lib.hid hlen
  have hk3 : (tk.f0 == 3) = false := beq_eq_false_iff_ne.2 hk
  clear hk
  clear hp hbb hF ht hn hlen
  go_enter Tryz.func138, Tryz.ntmps138
  go_wp2
  repeat (go_quiet (fail); try go_wp2_with (first | (go_at_call 52; (with_reducible refine (fail_calls g toks en n HN.out _ ?sp).mono ?_); (case sp => exact (Uq18 HP0.out)); rintro e w1 ⟨q, rfl, he, hq, hbl⟩; have HE := Lib.hid he; have HQ := Lib.hid (lo2 (g := g) (o := adO 0 0) (W := W) (Uq19 HB0.out) hq); have hb := Bu.of_below (g := g) hbl; have hp := PS.below (g := g) (toks := toks) (en := en) (at_ := (n : Int)) (Uq18 HP0.out) hbl; clear he hq hbl; have HP1 := Lib.hid hp; have HB1 := Lib.hid (Bu.trans (g := g) (a := W.alloc (adO 0 0)) (Uq19 HB0.out) hb); have BK1 := Lib.hid (hb.blk (k := W.heap.size) (o := adO 0 0) (Uq15 BK0.out) (Nat.ne_of_gt HG.out)); clear hp hb; obtain ⟨⟨f0, f1⟩, y0, y1⟩ := zzT BK1.out; have hsz : W.heap.size < w1.heap.size := blk_lt BK1.out)))
  refine bodyPost_ret (results_ct rfl _ _ W.heap.size 26 _ (0, 0) _ rfl (Uq20 BK1.out) hu rfl (by kernel_rfl)) rfl ?_
  refine ⟨q, ?_, ?_, Nat.le_of_lt HQ.out, ?_, ?_⟩
  · rfl
  · exact (Uq21 HE.out)
  · exact (Uq18 HP1.out)
  · exact (Uq22 HB1.out)
set_option maxHeartbeats 1600000 in
set_option maxRecDepth 100000 in
theorem cell_opens (toks : List Tok) (en : Int) (n : Nat) (hlen : toks.length ≤ 1000000) (tk : Tok) (ht : toks[n]? = some tk) (hk : tk.f0 = 3) (ho : opensV toks n = true) : CellBad toks en n (placeV toks en n) 13 n := by
  intro g W hp
  have hu := Tryz.underlying26
  have HG := Lib.hid hp.lt
  have HP0 := Lib.hid (hp.alloc (adO 0 0))
  have HB0 := Lib.hid (Bu.refl g (W.alloc (adO 0 0)))
  have BK0 := Lib.hid (blk_new W (adO 0 0))
  have HPW := Lib.hid hp
  have hg1 : (g = W.heap.size) = False := eq_false (Nat.ne_of_lt HG.out)
  have hg2 : (W.heap.size = g) = False := eq_false (Nat.ne_of_gt HG.out)
  have hg3 : g < W.heap.size := HG.out
  obtain ⟨At, ct, c0, c1, c2, z1, hbb, hF⟩ := hp.cells
  obtain ⟨hn, ad, rfl, t0, t1, t2, t3⟩ := PS.tok' hF n tk ht
  have hq : decide ((n : Int) < (toks.length : Int)) = true := decide_eq_true (by omega)
  have hq0 : decide (n < toks.length) = true := decide_eq_true (by omega)
  have hq00 : (n < toks.length) = True := eq_true (by omega)
  have hq1 : ((0 : Int) ≤ (n : Int)) = True := eq_true (by omega)
  have hq2 : ((n : Int) < (toks.length : Int)) = True := eq_true (by omega)
  have w1 : IntKind.i64.wrap ((n : Int) + 1) = (n : Int) + 1 := by rw [i64_w, M.wrap64_id (by unfold I64; omega)]
  have hlt : (ad.add (n * 4)).block < W.heap.size := World.block_lt_of_cell? _ _ t0
  have HN := Lib.hid (Nat.le_of_lt hn)
  have HLEN := Lib.hid hlen
  have hk3 : (tk.f0 == 3) = true := by rw [hk]; rfl
  have HO := Lib.hid ho
  clear hk ho
  clear hp hbb hF ht hn hlen
  go_enter Tryz.func138, Tryz.ntmps138
  go_wp2
  repeat (go_quiet (((go_at_call 136; (with_reducible refine (opens_quiet g toks en n HN.out HLEN.out _ ?sp).mono ?_); (case sp => exact (Uq18 HP0.out)); rintro e w' ⟨rfl, nd, rfl⟩; rw [HO.out]; (try first | exact ⟨rfl, _, World.drewN_drewN _ _ _⟩ | exact ⟨rfl, _, Eq.trans (World.drewN_drewN _ _ _) (congrArg (World.drewN _) (Nat.add_assoc _ _ _))⟩)))); try go_wp2_with (first | (go_at_call 52; (with_reducible refine (fail_calls g toks en n HN.out _ ?sp).mono ?_); (case sp => exact (Uq18 HP0.out)); rintro e w1 ⟨q, rfl, he, hq, hbl⟩; have HE := Lib.hid he; have HQ := Lib.hid (lo2 (g := g) (o := adO 0 0) (W := W) (Uq19 HB0.out) hq); have hb := Bu.of_below (g := g) hbl; have hp := PS.below (g := g) (toks := toks) (en := en) (at_ := (n : Int)) (Uq18 HP0.out) hbl; clear he hq hbl; have HP1 := Lib.hid hp; have HB1 := Lib.hid (Bu.trans (g := g) (a := W.alloc (adO 0 0)) (Uq19 HB0.out) hb); have BK1 := Lib.hid (hb.blk (k := W.heap.size) (o := adO 0 0) (Uq15 BK0.out) (Nat.ne_of_gt HG.out)); clear hp hb; obtain ⟨⟨f0, f1⟩, y0, y1⟩ := zzT BK1.out; have hsz : W.heap.size < w1.heap.size := blk_lt BK1.out)))
  refine bodyPost_ret (results_ct rfl _ _ W.heap.size 26 _ (0, 0) _ rfl (Uq20 BK1.out) hu rfl (by kernel_rfl)) rfl ?_
  refine ⟨q, ?_, ?_, Nat.le_of_lt HQ.out, ?_, ?_⟩
  · rfl
  · exact (Uq21 HE.out)
  · exact (Uq18 HP1.out)
  · exact (Uq22 HB1.out)
theorem cell_of {B : Nat} {W0 W1 : World} {p : Addr} {v : Value} (hb : Below B W0 W1) (hp : p.block < B) (h : W0.cell? p = some v) : W1.cell? p = some v := (Below.cell hb hp).trans h
theorem s_below {X W' : World} {p0 p1 p2 : Addr} {v0 v1 v2 : Value} (hb : Below X.heap.size X W') (h : X.cell? p0 = some v0 ∧ X.cell? p1 = some v1 ∧ X.cell? p2 = some v2) : W'.cell? p0 = some v0 ∧ W'.cell? p1 = some v1 ∧ W'.cell? p2 = some v2 :=
  ⟨cell_of hb (World.block_lt_of_cell? _ _ h.1) h.1, cell_of hb (World.block_lt_of_cell? _ _ h.2.1) h.2.1, cell_of hb (World.block_lt_of_cell? _ _ h.2.2) h.2.2⟩
theorem s_alloc {X : World} {p0 p1 p2 : Addr} {v0 v1 v2 : Value} (o : Obj) (h : X.cell? p0 = some v0 ∧ X.cell? p1 = some v1 ∧ X.cell? p2 = some v2) : (X.alloc o).cell? p0 = some v0 ∧ (X.alloc o).cell? p1 = some v1 ∧ (X.alloc o).cell? p2 = some v2 := s_below (below_alloc (Below.refl _ _) o) h
theorem s_drew {X : World} {p0 p1 p2 : Addr} {v0 v1 v2 : Value} (h : X.cell? p0 = some v0 ∧ X.cell? p1 = some v1 ∧ X.cell? p2 = some v2) : X.drew.cell? p0 = some v0 ∧ X.drew.cell? p1 = some v1 ∧ X.drew.cell? p2 = some v2 := h
theorem s_drewN {X : World} {p0 p1 p2 : Addr} {v0 v1 v2 : Value} (m : Nat) (h : X.cell? p0 = some v0 ∧ X.cell? p1 = some v1 ∧ X.cell? p2 = some v2) : (X.drewN m).cell? p0 = some v0 ∧ (X.drewN m).cell? p1 = some v1 ∧ (X.drewN m).cell? p2 = some v2 := h
theorem s_put2 {X : World} {q : Nat} {p0 p1 p2 : Addr} {v0 v1 v2 : Value} (h : X.cell? p0 = some v0 ∧ X.cell? p1 = some v1 ∧ X.cell? p2 = some v2) (h0 : p0.block < q) (h1 : p1.block < q) (h2 : p2.block < q) (u0 u1 : Value) : (put2 X q u0 u1).cell? p0 = some v0 ∧ (put2 X q u0 u1).cell? p1 = some v1 ∧ (put2 X q u0 u1).cell? p2 = some v2 :=
  ⟨(World.cell?_of_block (put2_old (Nat.ne_of_lt h0) u0 u1)).trans h.1, (World.cell?_of_block (put2_old (Nat.ne_of_lt h1) u0 u1)).trans h.2.1, (World.cell?_of_block (put2_old (Nat.ne_of_lt h2) u0 u1)).trans h.2.2⟩
set_option maxHeartbeats 1600000 in
set_option maxRecDepth 100000 in
theorem cell_ok (toks : List Tok) (en : Int) (n : Nat) (hlen : toks.length ≤ 1000000) (tk : Tok) (ht : toks[n]? = some tk) (hk : tk.f0 = 3) (ho : opensV toks n = false) (r c : Int) (hf : addr_Parse.f tk.f2 = some (r, c, true)) : CellOk toks en n r c (n + 1) := by
  intro g W hp
  have hu := Tryz.underlying26
  have HG := Lib.hid hp.lt
  have HP0 := Lib.hid (hp.alloc (adO 0 0))
  have HB0 := Lib.hid (Bu.refl g (W.alloc (adO 0 0)))
  have BK0 := Lib.hid (blk_new W (adO 0 0))
  have HPW := Lib.hid hp
  have hg1 : (g = W.heap.size) = False := eq_false (Nat.ne_of_lt HG.out)
  have hg2 : (W.heap.size = g) = False := eq_false (Nat.ne_of_gt HG.out)
  have hg3 : g < W.heap.size := HG.out
  obtain ⟨At, ct, c0, c1, c2, z1, hbb, hF⟩ := hp.cells
  obtain ⟨hn, ad, rfl, t0, t1, t2, t3⟩ := PS.tok' hF n tk ht
  have hq : decide ((n : Int) < (toks.length : Int)) = true := decide_eq_true (by omega)
  have hq0 : decide (n < toks.length) = true := decide_eq_true (by omega)
  have hq00 : (n < toks.length) = True := eq_true (by omega)
  have hq1 : ((0 : Int) ≤ (n : Int)) = True := eq_true (by omega)
  have hq2 : ((n : Int) < (toks.length : Int)) = True := eq_true (by omega)
  have w1 : IntKind.i64.wrap ((n : Int) + 1) = (n : Int) + 1 := by rw [i64_w, M.wrap64_id (by unfold I64; omega)]
  have hlt : (ad.add (n * 4)).block < W.heap.size := World.block_lt_of_cell? _ _ t0
  have HN := Lib.hid (Nat.le_of_lt hn)
  have HLEN := Lib.hid hlen
  have hk3 : (tk.f0 == 3) = true := by rw [hk]; rfl
  have HO := Lib.hid ho
  clear hk ho
  have HFP := Lib.hid hf
  clear hf
  have KK := Lib.hid (And.intro c0 (And.intro c1 t2))
  clear hp hbb hF ht hn hlen
  go_enter Tryz.func138, Tryz.ntmps138
  go_wp2
  repeat (go_quiet (((go_at_call 136; (with_reducible refine (opens_quiet g toks en n HN.out HLEN.out _ ?sp).mono ?_); (case sp => exact (Uq18 HP0.out)); rintro e w' ⟨rfl, nd, rfl⟩; rw [HO.out]; (try first | exact ⟨rfl, _, World.drewN_drewN _ _ _⟩ | exact ⟨rfl, _, Eq.trans (World.drewN_drewN _ _ _) (congrArg (World.drewN _) (Nat.add_assoc _ _ _))⟩)))); try go_wp2_with (first | (go_at_call 52; (with_reducible refine (fail_calls g toks en n HN.out _ ?sp).mono ?_); (case sp => exact (Uq18 HP0.out)); rintro e w1 ⟨q, rfl, he, hq, hbl⟩; have HE := Lib.hid he; have HQ := Lib.hid (lo2 (g := g) (o := adO 0 0) (W := W) (Uq19 HB0.out) hq); have hb := Bu.of_below (g := g) hbl; have hp := PS.below (g := g) (toks := toks) (en := en) (at_ := (n : Int)) (Uq18 HP0.out) hbl; clear he hq hbl; have HP1 := Lib.hid hp; have HB1 := Lib.hid (Bu.trans (g := g) (a := W.alloc (adO 0 0)) (Uq19 HB0.out) hb); have BK1 := Lib.hid (hb.blk (k := W.heap.size) (o := adO 0 0) (Uq15 BK0.out) (Nat.ne_of_gt HG.out)); clear hp hb; obtain ⟨⟨f0, f1⟩, y0, y1⟩ := zzT BK1.out; have hsz : W.heap.size < w1.heap.size := blk_lt BK1.out)))
  go_region_held3 (fun w' => w'.cell? ⟨g, 0, none⟩ = some (.slice (some ad) toks.length ct) ∧ w'.cell? ⟨g, 1, none⟩ = some (.int .i64 (n : Int)) ∧ w'.cell? ⟨(ad.add (n * 4)).block, (ad.add (n * 4)).off + 2, none⟩ = some (.string tk.f2)) (with_reducible repeat (first | exact KK.out | refine s_alloc _ ?_ | refine s_drewN _ ?_ | refine s_drew ?_ | refine s_below hbl ?_ | (refine s_put2 ?s3 ?s0 ?s1 ?s2 _ _; (case s0 => (first | assumption | (simp; omega))); (case s1 => (first | assumption | (simp; omega))); (case s2 => (first | assumption | (simp; omega)))))) (first | (go_at_call 140; (with_reducible refine (addr_Parse.calls tk.f2 _ _ _ _ ?sg HFP.out).mono ?_); (case sg => exact PS.g1 (g := g) (toks := toks) (en := en) (at_ := (n : Int)) (Uq18 HP0.out)); rintro e w' ⟨rfl, hbl⟩; have hs1 : W.heap.size < w'.heap.size := (by have h := hbl.size; simp at h; omega); have hs2 : g < w'.heap.size := Nat.lt_trans hg3 hs1; have hs3 : (ad.add (n * 4)).block < w'.heap.size := Nat.lt_trans hlt hs1; try (have nb : w'.heap[W.heap.size + 1]? = some (adO 0 0) := (by have h := blk_below (blk_new ((W.alloc (adO 0 0)).drewN (nq + 1)) (adO 0 0)) hbl; rw [show W.heap.size + 1 = ((W.alloc (adO 0 0)).drewN (nq + 1)).heap.size from by simp]; exact h); obtain ⟨⟨n0, n1⟩, y0, y1⟩ := zzT nb)))
  · have HPV : Hid (PS g toks en (n : Int) w') := Lib.hid (PS.below (g := g) (toks := toks) (en := en) (at_ := (n : Int)) (Uq18 HP0.out) hbl)
    have HBV : Hid (Bu g (W.alloc (adO 0 0)) w') := Lib.hid (Bu.trans (g := g) (a := W.alloc (adO 0 0)) (Uq19 HB0.out) (Bu.of_below (g := g) hbl))
    have BKV : Hid ((World.heap w')[W.heap.size]? = some (adO 0 0)) := Lib.hid (blk_below (Uq15 BK0.out) hbl)
    have nb := blk_new w' (adO r c)
    obtain ⟨⟨n0, n1⟩, y0, y1⟩ := zzT nb
    have hq3 : g ≠ w'.heap.size := Nat.ne_of_lt hs2
    clear c0 c1 c2 t0 t1 t2 t3 z1 hlt
    obtain ⟨Av, cv, p0, p1, p2, pz, -, -⟩ := (HPV.out).cells
    obtain ⟨⟨f0, f1⟩, x0, x1⟩ := zzT BKV.out
    go_wp2
    refine bodyPost_ret (results_ct rfl _ _ W.heap.size 26 _ (0, 0) _ rfl (by with_reducible repeat (first | exact put2_blk (blk_set BKV.out (Nat.ne_of_gt HG.out) _) _ _ | exact BKV.out | refine put2_blk ?_ _ _ | refine blk_alloc ?_ _ | refine blk_set ?_ (Nat.ne_of_gt HG.out) _)) hu rfl (by kernel_rfl)) rfl ?_
    refine ⟨by rfl, ?_, ?_⟩
    · show PS g toks en ((n : Int) + 1) _
      exact (by with_reducible repeat (first | exact HPV.out | refine put2_ps ?_ HG.out _ _ | refine PS.alloc ?_ _ | refine PS.put (at_ := (n : Int)) ?_ _))
    · exact (by with_reducible repeat (first | exact (Bu.alloc g W (adO 0 0)).trans HBV.out | refine put2_bu ?_ (Nat.le_refl _) _ _ | refine Bu.to_alloc ?_ _ | refine Bu.to_set ?_ _ _))
  · have HPV : Hid (PS g toks en (n : Int) (put2 w' (W.heap.size + 1) (.int .i64 r) (.int .i64 c))) := Lib.hid (put2_ps (PS.below (g := g) (toks := toks) (en := en) (at_ := (n : Int)) (Uq18 HP0.out) hbl) (Nat.lt_succ_of_lt HG.out) _ _)
    have HBV : Hid (Bu g (W.alloc (adO 0 0)) (put2 w' (W.heap.size + 1) (.int .i64 r) (.int .i64 c))) := Lib.hid (put2_bu (Bu.trans (g := g) (a := W.alloc (adO 0 0)) (Uq19 HB0.out) (Bu.of_below (g := g) hbl)) (by simp) _ _)
    have BKV : Hid ((World.heap (put2 w' (W.heap.size + 1) (.int .i64 r) (.int .i64 c)))[W.heap.size]? = some (adO 0 0)) := Lib.hid ((put2_old (by omega) _ _).trans (blk_below (Uq15 BK0.out) hbl))
    have nb' := put2_blk nb (.int .i64 r) (.int .i64 c)
    obtain ⟨⟨n2, n3⟩, y2, y3⟩ := zzT nb'
    have hq3 : g ≠ W.heap.size + 1 := by omega
    clear n0 n1 y0 y1 nb
    clear c0 c1 c2 t0 t1 t2 t3 z1 hlt
    obtain ⟨Av, cv, p0, p1, p2, pz, -, -⟩ := (HPV.out).cells
    obtain ⟨⟨f0, f1⟩, x0, x1⟩ := zzT BKV.out
    go_wp2
    refine bodyPost_ret (results_ct rfl _ _ W.heap.size 26 _ (0, 0) _ rfl (by with_reducible repeat (first | exact put2_blk (blk_set BKV.out (Nat.ne_of_gt HG.out) _) _ _ | exact BKV.out | refine put2_blk ?_ _ _ | refine blk_alloc ?_ _ | refine blk_set ?_ (Nat.ne_of_gt HG.out) _)) hu rfl (by kernel_rfl)) rfl ?_
    refine ⟨by rfl, ?_, ?_⟩
    · show PS g toks en ((n : Int) + 1) _
      exact (by with_reducible repeat (first | exact HPV.out | refine put2_ps ?_ HG.out _ _ | refine PS.alloc ?_ _ | refine PS.put (at_ := (n : Int)) ?_ _))
    · exact (by with_reducible repeat (first | exact (Bu.alloc g W (adO 0 0)).trans HBV.out | refine put2_bu ?_ (Nat.le_refl _) _ _ | refine Bu.to_alloc ?_ _ | refine Bu.to_set ?_ _ _))
set_option maxHeartbeats 1600000 in
set_option maxRecDepth 100000 in
theorem cell_none (toks : List Tok) (en : Int) (n : Nat) (hlen : toks.length ≤ 1000000) (tk : Tok) (ht : toks[n]? = some tk) (hk : tk.f0 = 3) (ho : opensV toks n = false) (r c : Int) (hf : addr_Parse.f tk.f2 = some (r, c, false)) : CellBad toks en n (placeV toks en n) 13 n := by
  intro g W hp
  have hu := Tryz.underlying26
  have HG := Lib.hid hp.lt
  have HP0 := Lib.hid (hp.alloc (adO 0 0))
  have HB0 := Lib.hid (Bu.refl g (W.alloc (adO 0 0)))
  have BK0 := Lib.hid (blk_new W (adO 0 0))
  have HPW := Lib.hid hp
  have hg1 : (g = W.heap.size) = False := eq_false (Nat.ne_of_lt HG.out)
  have hg2 : (W.heap.size = g) = False := eq_false (Nat.ne_of_gt HG.out)
  have hg3 : g < W.heap.size := HG.out
  obtain ⟨At, ct, c0, c1, c2, z1, hbb, hF⟩ := hp.cells
  obtain ⟨hn, ad, rfl, t0, t1, t2, t3⟩ := PS.tok' hF n tk ht
  have hq : decide ((n : Int) < (toks.length : Int)) = true := decide_eq_true (by omega)
  have hq0 : decide (n < toks.length) = true := decide_eq_true (by omega)
  have hq00 : (n < toks.length) = True := eq_true (by omega)
  have hq1 : ((0 : Int) ≤ (n : Int)) = True := eq_true (by omega)
  have hq2 : ((n : Int) < (toks.length : Int)) = True := eq_true (by omega)
  have w1 : IntKind.i64.wrap ((n : Int) + 1) = (n : Int) + 1 := by rw [i64_w, M.wrap64_id (by unfold I64; omega)]
  have hlt : (ad.add (n * 4)).block < W.heap.size := World.block_lt_of_cell? _ _ t0
  have HN := Lib.hid (Nat.le_of_lt hn)
  have HLEN := Lib.hid hlen
  have hk3 : (tk.f0 == 3) = true := by rw [hk]; rfl
  have HO := Lib.hid ho
  clear hk ho
  have HFP := Lib.hid hf
  clear hf
  have KK := Lib.hid (And.intro c0 (And.intro c1 t2))
  clear hp hbb hF ht hn hlen
  go_enter Tryz.func138, Tryz.ntmps138
  go_wp2
  repeat (go_quiet (((go_at_call 136; (with_reducible refine (opens_quiet g toks en n HN.out HLEN.out _ ?sp).mono ?_); (case sp => exact (Uq18 HP0.out)); rintro e w' ⟨rfl, nd, rfl⟩; rw [HO.out]; (try first | exact ⟨rfl, _, World.drewN_drewN _ _ _⟩ | exact ⟨rfl, _, Eq.trans (World.drewN_drewN _ _ _) (congrArg (World.drewN _) (Nat.add_assoc _ _ _))⟩)))); try go_wp2_with (first | (go_at_call 52; (with_reducible refine (fail_calls g toks en n HN.out _ ?sp).mono ?_); (case sp => exact (Uq18 HP0.out)); rintro e w1 ⟨q, rfl, he, hq, hbl⟩; have HE := Lib.hid he; have HQ := Lib.hid (lo2 (g := g) (o := adO 0 0) (W := W) (Uq19 HB0.out) hq); have hb := Bu.of_below (g := g) hbl; have hp := PS.below (g := g) (toks := toks) (en := en) (at_ := (n : Int)) (Uq18 HP0.out) hbl; clear he hq hbl; have HP1 := Lib.hid hp; have HB1 := Lib.hid (Bu.trans (g := g) (a := W.alloc (adO 0 0)) (Uq19 HB0.out) hb); have BK1 := Lib.hid (hb.blk (k := W.heap.size) (o := adO 0 0) (Uq15 BK0.out) (Nat.ne_of_gt HG.out)); clear hp hb; obtain ⟨⟨f0, f1⟩, y0, y1⟩ := zzT BK1.out; have hsz : W.heap.size < w1.heap.size := blk_lt BK1.out)))
  go_region_held3 (fun w' => w'.cell? ⟨g, 0, none⟩ = some (.slice (some ad) toks.length ct) ∧ w'.cell? ⟨g, 1, none⟩ = some (.int .i64 (n : Int)) ∧ w'.cell? ⟨(ad.add (n * 4)).block, (ad.add (n * 4)).off + 2, none⟩ = some (.string tk.f2)) (with_reducible repeat (first | exact KK.out | refine s_alloc _ ?_ | refine s_drewN _ ?_ | refine s_drew ?_ | refine s_below hbl ?_ | (refine s_put2 ?s3 ?s0 ?s1 ?s2 _ _; (case s0 => (first | assumption | (simp; omega))); (case s1 => (first | assumption | (simp; omega))); (case s2 => (first | assumption | (simp; omega)))))) (first | (go_at_call 140; (with_reducible refine (addr_Parse.calls tk.f2 _ _ _ _ ?sg HFP.out).mono ?_); (case sg => exact PS.g1 (g := g) (toks := toks) (en := en) (at_ := (n : Int)) (Uq18 HP0.out)); rintro e w' ⟨rfl, hbl⟩; have hs1 : W.heap.size < w'.heap.size := (by have h := hbl.size; simp at h; omega); have hs2 : g < w'.heap.size := Nat.lt_trans hg3 hs1; have hs3 : (ad.add (n * 4)).block < w'.heap.size := Nat.lt_trans hlt hs1; try (have nb : w'.heap[W.heap.size + 1]? = some (adO 0 0) := (by have h := blk_below (blk_new ((W.alloc (adO 0 0)).drewN (nq + 1)) (adO 0 0)) hbl; rw [show W.heap.size + 1 = ((W.alloc (adO 0 0)).drewN (nq + 1)).heap.size from by simp]; exact h); obtain ⟨⟨n0, n1⟩, y0, y1⟩ := zzT nb)))
  · have HP5 : Hid (PS g toks en (n : Int) w') := Lib.hid (PS.below (g := g) (toks := toks) (en := en) (at_ := (n : Int)) (Uq18 HP0.out) hbl)
    have HB5 : Hid (Bu g (W.alloc (adO 0 0)) w') := Lib.hid (Bu.trans (g := g) (a := W.alloc (adO 0 0)) (Uq19 HB0.out) (Bu.of_below (g := g) hbl))
    have BK5 : Hid ((World.heap w')[W.heap.size]? = some (adO 0 0)) := Lib.hid (blk_below (Uq15 BK0.out) hbl)
    have nb := blk_new w' (adO r c)
    clear c0 c1 c2 t0 t1 t2 t3 z1 hlt
    go_wp2_with (first | (go_at_call 52; (with_reducible refine (fail_calls g toks en n HN.out _ ?sp).mono ?_); (case sp => exact (Uq18 HP5.out)); rintro e w6 ⟨q, rfl, he, hq, hbl⟩; have HE := Lib.hid he; have HQ := Lib.hid (lo2 (g := g) (o := adO 0 0) (W := W) (Uq19 HB5.out) hq); have hb := Bu.of_below (g := g) hbl; have hp := PS.below (g := g) (toks := toks) (en := en) (at_ := (n : Int)) (Uq18 HP5.out) hbl; clear he hq hbl; have HP6 := Lib.hid hp; have HB6 := Lib.hid (Bu.trans (g := g) (a := W.alloc (adO 0 0)) (Uq19 HB5.out) hb); have BK6 := Lib.hid (hb.blk (k := W.heap.size) (o := adO 0 0) (Uq15 BK5.out) (Nat.ne_of_gt HG.out)); clear hp hb; obtain ⟨⟨f0, f1⟩, y0, y1⟩ := zzT BK6.out; have hsz : W.heap.size < w6.heap.size := blk_lt BK6.out))
    refine bodyPost_ret (results_ct rfl _ _ W.heap.size 26 _ (0, 0) _ rfl (Uq20 BK6.out) hu rfl (by kernel_rfl)) rfl ?_
    refine ⟨q, ?_, ?_, Nat.le_of_lt HQ.out, ?_, ?_⟩
    · rfl
    · exact (Uq21 HE.out)
    · exact (Uq18 HP6.out)
    · exact (Uq22 HB6.out)
  · have HP5 : Hid (PS g toks en (n : Int) (put2 w' (W.heap.size + 1) (.int .i64 r) (.int .i64 c))) := Lib.hid (put2_ps (PS.below (g := g) (toks := toks) (en := en) (at_ := (n : Int)) (Uq18 HP0.out) hbl) (Nat.lt_succ_of_lt HG.out) _ _)
    have HB5 : Hid (Bu g (W.alloc (adO 0 0)) (put2 w' (W.heap.size + 1) (.int .i64 r) (.int .i64 c))) := Lib.hid (put2_bu (Bu.trans (g := g) (a := W.alloc (adO 0 0)) (Uq19 HB0.out) (Bu.of_below (g := g) hbl)) (by simp) _ _)
    have BK5 : Hid ((World.heap (put2 w' (W.heap.size + 1) (.int .i64 r) (.int .i64 c)))[W.heap.size]? = some (adO 0 0)) := Lib.hid ((put2_old (by omega) _ _).trans (blk_below (Uq15 BK0.out) hbl))
    clear c0 c1 c2 t0 t1 t2 t3 z1 hlt
    go_wp2_with (first | (go_at_call 52; (with_reducible refine (fail_calls g toks en n HN.out _ ?sp).mono ?_); (case sp => exact (Uq18 HP5.out)); rintro e w6 ⟨q, rfl, he, hq, hbl⟩; have HE := Lib.hid he; have HQ := Lib.hid (lo2 (g := g) (o := adO 0 0) (W := W) (Uq19 HB5.out) hq); have hb := Bu.of_below (g := g) hbl; have hp := PS.below (g := g) (toks := toks) (en := en) (at_ := (n : Int)) (Uq18 HP5.out) hbl; clear he hq hbl; have HP6 := Lib.hid hp; have HB6 := Lib.hid (Bu.trans (g := g) (a := W.alloc (adO 0 0)) (Uq19 HB5.out) hb); have BK6 := Lib.hid (hb.blk (k := W.heap.size) (o := adO 0 0) (Uq15 BK5.out) (Nat.ne_of_gt HG.out)); clear hp hb; obtain ⟨⟨f0, f1⟩, y0, y1⟩ := zzT BK6.out; have hsz : W.heap.size < w6.heap.size := blk_lt BK6.out))
    refine bodyPost_ret (results_ct rfl _ _ W.heap.size 26 _ (0, 0) _ rfl (Uq20 BK6.out) hu rfl (by kernel_rfl)) rfl ?_
    refine ⟨q, ?_, ?_, Nat.le_of_lt HQ.out, ?_, ?_⟩
    · rfl
    · exact (Uq21 HE.out)
    · exact (Uq18 HP6.out)
    · exact (Uq22 HB6.out)
end Go.Proofs.YtnomfbmebafolaaGreatDoor.P

namespace Go.Proofs.YtnomfbmebafolaaGreatDoor.P
open Go.RowKit Go.Proofs.YtnomfbmebafolaaGreatDoorW.PrintWords Go.Proofs.YtnomfbmebafolaaGreatDoorW.PrintLast Go.Proofs.YtnomfbmebafolaaGreatDoorW.PrintMore
open M (I64)
set_option linter.unusedVariables false
set_option linter.unusedSimpArgs false
abbrev PF := Nat → PR × Nat
abbrev sixL : List ByteArray := [⟨#[61]⟩, ⟨#[60, 62]⟩, ⟨#[60]⟩, ⟨#[60, 61]⟩, ⟨#[62]⟩, ⟨#[62, 61]⟩]
abbrev sumL : List ByteArray := [⟨#[43]⟩, ⟨#[45]⟩, ⟨#[38]⟩]
abbrev prodL : List ByteArray := [⟨#[42]⟩, ⟨#[47]⟩, ⟨#[37]⟩]
def callT (s : ByteArray) (l : List TN) : TN := ⟨6, ⟨0, 0, ⟨#[]⟩⟩, ⟨⟨0, 0⟩, ⟨0, 0⟩⟩, s, l⟩
section
variable (toks : List Tok) (en : Int)
def failF (n : Nat) : PR × Nat := (.bad (placeV toks en n) 13, n)
def rowF (part : PF) (l : List ByteArray) : Nat → TN → Nat → PR × Nat
  | 0, _, n => (.bad 0 0, n)
  | k + 1, a, n =>
    match signV toks n l with
    | (_, false, n') => (.ok a, n')
    | (s, true, n') =>
      match part n' with
      | (.bad p c, n2) => (.bad p c, n2)
      | (.ok b, n2) => rowF part l k (twoT s a b) n2
def rowsF (part : PF) (l : List ByteArray) (n : Nat) : PR × Nat :=
  match part n with
  | (.bad p c, n2) => (.bad p c, n2)
  | (.ok a, n2) => rowF toks part l (toks.length + 1) a n2
def formF (sum : PF) (n : Nat) : PR × Nat :=
  match sum n with
  | (.bad p c, n1) => (.bad p c, n1)
  | (.ok a, n1) =>
    match signV toks n1 sixL with
    | (_, false, n2) => (.ok a, n2)
    | (s, true, n2) =>
      match sum n2 with
      | (.bad p c, n3) => (.bad p c, n3)
      | (.ok b, n3) => (.ok (twoT s a b), n3)
def powF (un pow' : PF) (n : Nat) : PR × Nat :=
  match un n with
  | (.bad p c, n1) => (.bad p c, n1)
  | (.ok a, n1) =>
    match signV toks n1 [⟨#[94]⟩] with
    | (_, false, n2) => (.ok a, n2)
    | (_, true, n2) =>
      match pow' n2 with
      | (.bad p c, n3) => (.bad p c, n3)
      | (.ok b, n3) => (.ok (twoT ⟨#[94]⟩ a b), n3)
def unF (part un' : PF) (n : Nat) : PR × Nat :=
  match signV toks n [⟨#[45]⟩] with
  | (_, false, n1) => part n1
  | (_, true, n1) =>
    match un' n1 with
    | (.bad p c, n2) => (.bad p c, n2)
    | (.ok a, n2) => (.ok (negT a), n2)
def withinF (form' : PF) (n : Nat) : PR × Nat :=
  match form' n with
  | (.bad p c, n1) => (.bad p c, n1)
  | (.ok a, n1) =>
    match signV toks n1 [⟨#[41]⟩] with
    | (_, false, n2) => failF toks en n2
    | (_, true, n2) => (.ok a, n2)
def cellF (n : Nat) : Option (Int × Int) :=
  match toks[n]? with
  | none => none
  | some tk => if tk.f0 = 3 then (if opensV toks n = true then none else match addr_Parse.f tk.f2 with | some (r, c, true) => some (r, c) | _ => none) else none
def argsF (form' : PF) (s : ByteArray) : Nat → List TN → Nat → PR × Nat
  | 0, _, n => failF toks en n
  | k + 1, l, n =>
    match form' n with
    | (.bad p c, n1) => (.bad p c, n1)
    | (.ok a, n1) =>
      match signV toks n1 [⟨#[44]⟩] with
      | (_, true, n2) => argsF form' s k (l ++ [a]) n2
      | (_, false, n2) =>
        match signV toks n2 [⟨#[41]⟩] with
        | (_, true, n3) => (.ok (callT s (l ++ [a])), n3)
        | (_, false, n3) => failF toks en n3
def callF (form' : PF) (s : ByteArray) (n : Nat) : PR × Nat :=
  if 8 < s.size then failF toks en n else
    match signV toks (n + 2) [⟨#[41]⟩] with
    | (_, true, n1) => (.ok (callT s []), n1)
    | (_, false, n1) => argsF toks en form' s 10 [] n1
def nameF (form' : PF) (s : ByteArray) (n : Nat) : PR × Nat :=
  if opensV toks n = true then callF toks en form' s n else
    if (s.toList == ([84, 82, 85, 69] : List UInt8)) = true then (.ok (constT ⟨1, 1, ⟨#[]⟩⟩), n + 1) else
    if (s.toList == ([70, 65, 76, 83, 69] : List UInt8)) = true then (.ok (constT ⟨1, 0, ⟨#[]⟩⟩), n + 1) else
    match cellF toks n with
    | none => failF toks en n
    | some (r, c) =>
      match signV toks (n + 1) [⟨#[58]⟩] with
      | (_, false, n2) => (.ok (cellT r c), n2)
      | (_, true, n2) =>
        match cellF toks n2 with
        | none => failF toks en n2
        | some (x, y) => match addr_Made.f r c x y with | some (u1, u2, u3, u4, _) => (.ok (rangeT u1 u2 u3 u4), n2 + 1) | none => (.bad 0 0, n2)
def partF (form' : PF) (n : Nat) : PR × Nat :=
  match toks[n]? with
  | none => failF toks en n
  | some tk =>
    if tk.f0 = 1 then (.ok (constT ⟨2, tk.f1, ⟨#[]⟩⟩), n + 1) else
    if tk.f0 = 2 then (if tk.f2.size ≤ 200 then (.ok (constT ⟨3, 0, tk.f2⟩), n + 1) else failF toks en n) else
    if tk.f0 = 3 then nameF toks en form' tk.f2 n else
    if tk.f0 = 4 then (match signV toks n [⟨#[40]⟩] with | (_, false, n1) => failF toks en n1 | (_, true, n1) => withinF toks en form' n1) else
    failF toks en n
structure Lv where
  form : PF
  pow : PF
  un : PF
def prodF (pow : PF) : PF := rowsF toks pow prodL
def sumF (pow : PF) : PF := rowsF toks (prodF toks pow) sumL
def lv : Nat → Lv
  | 0 => ⟨fun n => (.bad 0 14, n), fun n => (.bad 0 14, n), fun n => (.bad 0 14, n)⟩
  | d + 1 =>
    let L := lv d
    let un : PF := unF toks (partF toks en L.form) L.un
    let pow : PF := powF toks un L.pow
    ⟨formF toks (sumF toks pow), pow, un⟩
end
def Fit (toks : List Tok) (F : PF) : Prop := ∀ n, n ≤ toks.length → n ≤ (F n).2 ∧ (F n).2 ≤ toks.length ∧ ∀ t m, F n = (.ok t, m) → n < m
theorem sign_cases (toks : List Tok) (n : Nat) (l : List ByteArray) : (signV toks n l = (⟨#[]⟩, false, n)) ∨ (∃ s, signV toks n l = (s, true, n + 1) ∧ n < toks.length) := by
  unfold signV
  cases e : toks[n]? with
  | none => exact Or.inl rfl
  | some t =>
    obtain ⟨h1, -⟩ := List.getElem?_eq_some_iff.1 e
    dsimp only
    by_cases h4 : t.f0 = 4
    · rw [if_pos h4]
      by_cases h5 : inL l t.f2 = true
      · rw [if_pos h5]; exact Or.inr ⟨_, rfl, h1⟩
      · rw [if_neg h5]; exact Or.inl rfl
    · rw [if_neg h4]; exact Or.inl rfl
theorem Fit.le {toks : List Tok} {F : PF} (h : Fit toks F) {n m : Nat} {r : PR} (hn : n ≤ toks.length) (e : F n = (r, m)) : n ≤ m ∧ m ≤ toks.length := by
  have := h n hn; rw [e] at this; exact ⟨this.1, this.2.1⟩
theorem Fit.lt {toks : List Tok} {F : PF} (h : Fit toks F) {n m : Nat} {t : TN} (hn : n ≤ toks.length) (e : F n = (.ok t, m)) : n < m := (h n hn).2.2 t m e
theorem fit_row {toks : List Tok} {part : PF} (hp : Fit toks part) (l : List ByteArray) : ∀ (k : Nat) (a : TN) (n : Nat), n ≤ toks.length → n ≤ (rowF toks part l k a n).2 ∧ (rowF toks part l k a n).2 ≤ toks.length := by
  intro k
  induction k with
  | zero => intro a n hn; exact ⟨Nat.le_refl _, hn⟩
  | succ k ih =>
    intro a n hn
    unfold rowF
    rcases sign_cases toks n l with e | ⟨s, e, hlt⟩
    · rw [e]; exact ⟨Nat.le_refl _, hn⟩
    · rw [e]
      dsimp only
      cases e2 : part (n + 1) with
      | mk r m =>
        have h2 := hp.le (by omega) e2
        cases r with
        | bad p c => dsimp only; omega
        | ok b => dsimp only; have := ih (twoT s a b) m h2.2; omega
theorem fit_rows {toks : List Tok} {part : PF} (hp : Fit toks part) (l : List ByteArray) : Fit toks (rowsF toks part l) := by
  intro n hn
  unfold rowsF
  cases e : part n with
  | mk r m =>
    have h := hp.le hn e
    cases r with
    | bad p c => exact ⟨h.1, h.2, fun t m h => by cases h⟩
    | ok a =>
      have h1 := hp.lt hn e
      have h2 := fit_row hp l (toks.length + 1) a m h.2
      dsimp only
      exact ⟨by omega, h2.2, fun t m' e' => by rw [e'] at h2; have := h2.1; dsimp only at this; omega⟩
theorem Fit.mk {toks : List Tok} {F : PF} (h : ∀ n, n ≤ toks.length → ∃ r m, F n = (r, m) ∧ n ≤ m ∧ m ≤ toks.length ∧ ∀ t, r = .ok t → n < m) : Fit toks F := by
  intro n hn
  obtain ⟨r, m, e, h1, h2, h3⟩ := h n hn
  rw [e]
  exact ⟨h1, h2, fun t m' h => by cases h; exact h3 t rfl⟩
theorem fit_form {toks : List Tok} {sum : PF} (hs : Fit toks sum) : Fit toks (formF toks sum) := by
  refine Fit.mk fun n hn => ?_
  unfold formF
  cases e : sum n with
  | mk r m =>
    have h := hs.le hn e
    cases r with
    | bad p c => exact ⟨_, _, rfl, h.1, h.2, fun t h => by cases h⟩
    | ok a =>
      have h1 := hs.lt hn e
      dsimp only
      rcases sign_cases toks m sixL with e1 | ⟨s, e1, hlt⟩
      · rw [e1]; exact ⟨_, _, rfl, h.1, h.2, fun t _ => h1⟩
      · rw [e1]
        dsimp only
        cases e2 : sum (m + 1) with
        | mk r2 m2 =>
          have h2 := hs.le (by omega) e2
          cases r2 with
          | bad p c => exact ⟨_, _, rfl, by omega, h2.2, fun t h => by cases h⟩
          | ok b => exact ⟨_, _, rfl, by omega, h2.2, fun t _ => by omega⟩
theorem fit_pow {toks : List Tok} {un pow' : PF} (hu : Fit toks un) (hp : Fit toks pow') : Fit toks (powF toks un pow') := by
  refine Fit.mk fun n hn => ?_
  unfold powF
  cases e : un n with
  | mk r m =>
    have h := hu.le hn e
    cases r with
    | bad p c => exact ⟨_, _, rfl, h.1, h.2, fun t h => by cases h⟩
    | ok a =>
      have h1 := hu.lt hn e
      dsimp only
      rcases sign_cases toks m [⟨#[94]⟩] with e1 | ⟨s, e1, hlt⟩
      · rw [e1]; exact ⟨_, _, rfl, h.1, h.2, fun t _ => h1⟩
      · rw [e1]
        dsimp only
        cases e2 : pow' (m + 1) with
        | mk r2 m2 =>
          have h2 := hp.le (by omega) e2
          cases r2 with
          | bad p c => exact ⟨_, _, rfl, by omega, h2.2, fun t h => by cases h⟩
          | ok b => exact ⟨_, _, rfl, by omega, h2.2, fun t _ => by omega⟩
theorem fit_un {toks : List Tok} {part un' : PF} (hp : Fit toks part) (hu : Fit toks un') : Fit toks (unF toks part un') := by
  refine Fit.mk fun n hn => ?_
  unfold unF
  rcases sign_cases toks n [⟨#[45]⟩] with e1 | ⟨s, e1, hlt⟩
  · rw [e1]
    dsimp only
    exact ⟨(part n).1, (part n).2, rfl, (hp n hn).1, (hp n hn).2.1, fun t h => (hp n hn).2.2 t _ (by rw [← h])⟩
  · rw [e1]
    dsimp only
    cases e2 : un' (n + 1) with
    | mk r2 m2 =>
      have h2 := hu.le (by omega) e2
      cases r2 with
      | bad p c => exact ⟨_, _, rfl, by omega, h2.2, fun t h => by cases h⟩
      | ok b => exact ⟨_, _, rfl, by omega, h2.2, fun t _ => by omega⟩
theorem fit_within {toks : List Tok} {en : Int} {form' : PF} (hf : Fit toks form') : Fit toks (withinF toks en form') := by
  refine Fit.mk fun n hn => ?_
  unfold withinF
  cases e : form' n with
  | mk r m =>
    have h := hf.le hn e
    cases r with
    | bad p c => exact ⟨_, _, rfl, h.1, h.2, fun t h => by cases h⟩
    | ok a =>
      have h1 := hf.lt hn e
      dsimp only
      rcases sign_cases toks m [⟨#[41]⟩] with e1 | ⟨s, e1, hlt⟩
      · rw [e1]; exact ⟨_, _, rfl, h.1, h.2, fun t h => by cases h⟩
      · rw [e1]; exact ⟨_, _, rfl, by omega, by omega, fun t _ => by omega⟩
theorem cellF_lt {toks : List Tok} {n : Nat} {x : Int × Int} (h : cellF toks n = some x) : n < toks.length := by
  unfold cellF at h
  cases e : toks[n]? with
  | none => rw [e] at h; cases h
  | some t => exact (List.getElem?_eq_some_iff.1 e).1
theorem fit_args {toks : List Tok} {en : Int} {form' : PF} (hf : Fit toks form') (s : ByteArray) : ∀ (k : Nat) (l : List TN) (n : Nat), n ≤ toks.length → n ≤ (argsF toks en form' s k l n).2 ∧ (argsF toks en form' s k l n).2 ≤ toks.length := by
  intro k
  induction k with
  | zero => intro l n hn; exact ⟨Nat.le_refl _, hn⟩
  | succ k ih =>
    intro l n hn
    unfold argsF
    cases e : form' n with
    | mk r m =>
      have h := hf.le hn e
      cases r with
      | bad p c => dsimp only; exact h
      | ok a =>
        dsimp only
        rcases sign_cases toks m [⟨#[44]⟩] with e1 | ⟨s1, e1, hlt⟩
        · rw [e1]
          dsimp only
          rcases sign_cases toks m [⟨#[41]⟩] with e2 | ⟨s2, e2, hlt2⟩
          · rw [e2]; exact h
          · rw [e2]; dsimp only; omega
        · rw [e1]; dsimp only; have := ih (l ++ [a]) (m + 1) (by omega); omega
theorem opens_lt {toks : List Tok} {n : Nat} (h : opensV toks n = true) : n + 1 < toks.length := by
  unfold opensV at h
  cases e : toks[n + 1]? with
  | none => rw [e] at h; cases h
  | some t => exact (List.getElem?_eq_some_iff.1 e).1
theorem fit_call {toks : List Tok} {en : Int} {form' : PF} (hf : Fit toks form') (s : ByteArray) (n : Nat) (hn : n + 2 ≤ toks.length) : n ≤ (callF toks en form' s n).2 ∧ (callF toks en form' s n).2 ≤ toks.length ∧ ∀ t m, callF toks en form' s n = (.ok t, m) → n < m := by
  unfold callF
  by_cases h8 : 8 < s.size
  · rw [if_pos h8]; exact ⟨Nat.le_refl _, by show n ≤ _; omega, fun t m h => by cases h⟩
  · rw [if_neg h8]
    rcases sign_cases toks (n + 2) [⟨#[41]⟩] with e | ⟨s1, e, hlt⟩
    · rw [e]
      dsimp only
      have h := fit_args (en := en) hf s 10 [] (n + 2) hn
      exact ⟨by omega, h.2, fun t m e => by rw [e] at h; have := h.1; dsimp only at this; omega⟩
    · rw [e]; dsimp only; exact ⟨by omega, by omega, fun t m h => by cases h; omega⟩
theorem fit_name {toks : List Tok} {en : Int} {form' : PF} (hf : Fit toks form') (s : ByteArray) (n : Nat) (hn : n < toks.length) : n ≤ (nameF toks en form' s n).2 ∧ (nameF toks en form' s n).2 ≤ toks.length ∧ ∀ t m, nameF toks en form' s n = (.ok t, m) → n < m := by
  unfold nameF
  by_cases h0 : opensV toks n = true
  · rw [if_pos h0]
    exact fit_call hf s n (opens_lt h0)
  · rw [if_neg h0]
    by_cases h1 : (s.toList == ([84, 82, 85, 69] : List UInt8)) = true
    · rw [if_pos h1]; exact ⟨by dsimp only; omega, by dsimp only; omega, fun t m h => by cases h; omega⟩
    · rw [if_neg h1]
      by_cases h2 : (s.toList == ([70, 65, 76, 83, 69] : List UInt8)) = true
      · rw [if_pos h2]; exact ⟨by dsimp only; omega, by dsimp only; omega, fun t m h => by cases h; omega⟩
      · rw [if_neg h2]
        cases ea : cellF toks n with
        | none => exact ⟨Nat.le_refl _, by show n ≤ _; omega, fun t m h => by cases h⟩
        | some x =>
          obtain ⟨r, c⟩ := x
          dsimp only
          rcases sign_cases toks (n + 1) [⟨#[58]⟩] with e | ⟨s1, e, hlt⟩
          · rw [e]; exact ⟨by dsimp only; omega, by dsimp only; omega, fun t m h => by cases h; omega⟩
          · rw [e]
            dsimp only
            cases eb : cellF toks (n + 1 + 1) with
            | none => exact ⟨by show n ≤ n + 1 + 1; omega, by show n + 1 + 1 ≤ _; omega, fun t m h => by cases h⟩
            | some y =>
              obtain ⟨x, y⟩ := y
              have := cellF_lt eb
              dsimp only
              cases em : addr_Made.f r c x y with
              | none => exact ⟨by dsimp only; omega, by dsimp only; omega, fun t m h => by cases h⟩
              | some z =>
                obtain ⟨z1, z2, z3, z4, z5⟩ := z
                exact ⟨by dsimp only; omega, by dsimp only; omega, fun t m h => by cases h; omega⟩
theorem fit_part {toks : List Tok} {en : Int} {form' : PF} (hf : Fit toks form') : Fit toks (partF toks en form') := by
  intro n hn
  unfold partF
  cases e : toks[n]? with
  | none => exact ⟨Nat.le_refl _, hn, fun t m h => by cases h⟩
  | some tk =>
    have hlt := (List.getElem?_eq_some_iff.1 e).1
    dsimp only
    by_cases h1 : tk.f0 = 1
    · rw [if_pos h1]; exact ⟨by dsimp only; omega, by dsimp only; omega, fun t m h => by cases h; omega⟩
    · rw [if_neg h1]
      by_cases h2 : tk.f0 = 2
      · rw [if_pos h2]
        by_cases hs : tk.f2.size ≤ 200
        · rw [if_pos hs]; exact ⟨by dsimp only; omega, by dsimp only; omega, fun t m h => by cases h; omega⟩
        · rw [if_neg hs]; exact ⟨Nat.le_refl _, hn, fun t m h => by cases h⟩
      · rw [if_neg h2]
        by_cases h3 : tk.f0 = 3
        · rw [if_pos h3]; exact fit_name hf tk.f2 n hlt
        · rw [if_neg h3]
          by_cases h4 : tk.f0 = 4
          · rw [if_pos h4]
            rcases sign_cases toks n [⟨#[40]⟩] with e1 | ⟨s1, e1, hlt1⟩
            · rw [e1]; exact ⟨Nat.le_refl _, hn, fun t m h => by cases h⟩
            · rw [e1]
              dsimp only
              have := fit_within (en := en) hf (n + 1) (by omega)
              exact ⟨by omega, this.2.1, fun t m h => by have := this.2.2 t m h; omega⟩
          · rw [if_neg h4]; exact ⟨Nat.le_refl _, hn, fun t m h => by cases h⟩
theorem fit_lv (toks : List Tok) (en : Int) : ∀ d, Fit toks (lv toks en d).form ∧ Fit toks (lv toks en d).pow ∧ Fit toks (lv toks en d).un := by
  intro d
  induction d with
  | zero =>
    have : Fit toks (fun n => (.bad 0 14, n)) := fun n hn => ⟨Nat.le_refl _, hn, fun t m h => by cases h⟩
    exact ⟨this, this, this⟩
  | succ d ih =>
    obtain ⟨h1, h2, h3⟩ := ih
    have hu := fit_un (fit_part (en := en) h1) h3
    have hp := fit_pow hu h2
    exact ⟨fit_form (fit_rows (fit_rows hp _) _), hp, hu⟩
end Go.Proofs.YtnomfbmebafolaaGreatDoor.P

namespace Go.Proofs.YtnomfbmebafolaaGreatDoor.P
open Go.RowKit Go.Proofs.YtnomfbmebafolaaGreatDoorW.PrintWords Go.Proofs.YtnomfbmebafolaaGreatDoorW.PrintLast Go.Proofs.YtnomfbmebafolaaGreatDoorW.PrintMore
open M (I64)
set_option linter.unusedVariables false
set_option linter.unusedSimpArgs false
inductive RowR (m : Nat) (toks : List Tok) (en i : Int) (l : List ByteArray) : TN → Nat → PR × Nat → Prop where
  | stop {a : TN} {n : Nat} (s : ByteArray) (n' : Nat) (hn : n ≤ toks.length) (hs : signV toks n l = (s, false, n')) : RowR m toks en i l a n (.ok a, n')
  | bad {a : TN} {n : Nat} (s : ByteArray) (n' : Nat) (p c : Int) (n2 : Nat) (hn : n ≤ toks.length) (hs : signV toks n l = (s, true, n')) (hf : Does m toks en i n' (.bad p c, n2)) (hle : n ≤ n2) : RowR m toks en i l a n (.bad p c, n2)
  | more {a : TN} {n : Nat} {r : PR × Nat} (s : ByteArray) (n' : Nat) (b : TN) (n2 : Nat) (hn : n ≤ toks.length) (hs : signV toks n l = (s, true, n')) (hf : Does m toks en i n' (.ok b, n2)) (hlt : n < n2) (h : RowR m toks en i l (twoT s a b) n2 r) : RowR m toks en i l a n r
theorem vN.cut {ok : Nat → Prop} {W : World} {v : Value} {l : List TN} (h : vN ok W v l) : vN (fun k => ok k ∧ k < W.heap.size) W v l := by
  obtain ⟨A, c, rfl, hl, hF⟩ := h
  exact ⟨A, c, rfl, hl, fun W' hW => hF W' (fun k hk hlt => hW k ⟨hk, hlt⟩ hlt)⟩
theorem signV_lt {toks : List Tok} {n : Nat} {l : List ByteArray} {s : ByteArray} {n' : Nat} (h : signV toks n l = (s, true, n')) : n < toks.length ∧ n' = n + 1 := by
  unfold signV at h
  cases e : toks[n]? with
  | none => rw [e] at h; simp at h
  | some t =>
    rw [e] at h
    obtain ⟨h1, -⟩ := List.getElem?_eq_some_iff.1 e
    dsimp only at h
    by_cases h4 : t.f0 = 4
    · by_cases h5 : inL l t.f2 = true
      · rw [if_pos h4, if_pos h5] at h
        simp at h
        exact ⟨h1, h.2.symm⟩
      · rw [if_pos h4, if_neg h5] at h; simp at h
    · rw [if_neg h4] at h; simp at h
def atOf (g : Nat) (w : World) : Nat := match w.cell? ⟨g, 1, none⟩ with | some (.int _ k) => k.toNat | _ => 0
theorem PS.atOf {g : Nat} {toks : List Tok} {en : Int} {n : Nat} {W : World} (h : PS g toks en (n : Int) W) : atOf g W = n := by
  obtain ⟨A, c, c0, c1, -⟩ := h.cells
  unfold P.atOf
  rw [c1]; simp
def errMu (v : Value) : Nat := match v with | .nilIface => 1 | _ => 0
theorem mu_bad {g : Nat} {toks : List Tok} {en : Int} {n n3 q : Nat} {t : TypeId} {wr : World} (hp : PS g toks en (n : Int) wr) (h1 : n < toks.length) (h2 : n ≤ n3) (wx : World) (hx : PS g toks en (n3 : Int) wx) :
    2 * (toks.length - P.atOf g wx) + errMu (.iface t (ptr q)) < 2 * (toks.length - P.atOf g wr) + errMu .nilIface := by
  rw [PS.atOf hp, PS.atOf hx]
  simp only [errMu]
  omega
theorem mu_more {g : Nat} {toks : List Tok} {en : Int} {n n3 : Nat} {wr : World} (hp : PS g toks en (n : Int) wr) (h1 : n < toks.length) (h2 : n < n3) (wx : World) (hx : PS g toks en (n3 : Int) wx) :
    2 * (toks.length - P.atOf g wx) + errMu .nilIface < 2 * (toks.length - P.atOf g wr) + errMu .nilIface := by
  rw [PS.atOf hp, PS.atOf hx]
  simp only [errMu]
  omega
def RowS (m : Nat) (toks : List Tok) (en i : Int) (l : List ByteArray) (g : Nat) (W : World) (Ba : Nat) (r : PR × Nat) (v : Value) (wr : World) : Prop :=
  (∃ a n AA kk, v = .nilIface ∧ RowR m toks en i l a n r ∧ PS g toks en (n : Int) wr ∧ Bu g (W.alloc nd0) wr ∧ wr.heap[W.heap.size]? = some nd0 ∧ wr.heap[Ba]? = some (ndO a (.slice AA a.f4.length kk)) ∧ vN (fun k => W.heap.size < k ∧ k ≠ Ba) wr (.slice AA a.f4.length kk) a.f4) ∨
  (∃ p c n q, v = .iface 78 (ptr q) ∧ r = (.bad p c, n) ∧ PS g toks en (n : Int) wr ∧ Bu g (W.alloc nd0) wr ∧ wr.heap[W.heap.size]? = some nd0 ∧ wr.heap[q]? = some (.cells #[.int .i64 p, .int .i64 c] 82 (0, 0)) ∧ W.heap.size < q)
def RowE (g : Nat) (W : World) (p c : Int) (n : Nat) (toks : List Tok) (en : Int) (v : Value) (wr : World) : Prop :=
  ∃ q, v = .iface 78 (ptr q) ∧ PS g toks en (n : Int) wr ∧ Bu g (W.alloc nd0) wr ∧ wr.heap[W.heap.size]? = some nd0 ∧ wr.heap[q]? = some (.cells #[.int .i64 p, .int .i64 c] 82 (0, 0)) ∧ W.heap.size < q
theorem Uq23 {p q : Prop} (h0 : p) (h : p → q := by intro h_; with_reducible repeat (first | exact h_ | exact Bu.refl _ _ | refine Bu.to_alloc ?_ _ | refine put10_bu ?_ (Nat.le_refl _) _ _ _ _ _ _ _ _ _ _ | refine put10_bu ?_ (Nat.le_of_lt HZ1.out) _ _ _ _ _ _ _ _ _ _ | refine put10_bu ?_ (HB1.out.size) _ _ _ _ _ _ _ _ _ _ | refine put10_bu ?_ (HB2.out.size) _ _ _ _ _ _ _ _ _ _)) : q := h h0
theorem Uq24 {p q : Prop} (h0 : p) (h : p → q := by intro h_; with_reducible repeat (first | exact h_ | exact blk_new _ _ | refine (put10_old (Nat.ne_of_lt (Nat.lt_trans HZ1.out HL12.out)) _ _ _ _ _ _ _ _ _ _).trans ?_ | refine blk_alloc ?_ _ | refine (put10_old (Nat.ne_of_lt HZ1.out) _ _ _ _ _ _ _ _ _ _).trans ?_ | refine (put10_old (Nat.ne_of_lt HZ2.out) _ _ _ _ _ _ _ _ _ _).trans ?_ | refine (put10_old (Nat.ne_of_lt HL12.out) _ _ _ _ _ _ _ _ _ _).trans ?_)) : q := h h0
theorem Uq25 {p q : Prop} (h0 : p) (h : p → q := by intro h_; with_reducible repeat (first | exact h_ | refine PS.alloc ?_ _ | refine put10_ps ?_ HG.out _ _ _ _ _ _ _ _ _ _ | refine put10_ps ?_ (Nat.lt_trans HG.out HZ1.out) _ _ _ _ _ _ _ _ _ _ | refine put10_ps ?_ (Nat.lt_trans HG.out HZ2.out) _ _ _ _ _ _ _ _ _ _)) : q := h h0
theorem Uq26 {p q : Prop} (h0 : p) (h : p → q := by intro h_; with_reducible repeat (first | exact h_ | refine blk_alloc ?_ _)) : q := h h0
theorem Uq27 {p q : Prop} (h0 : p) (h : p → q := by intro h_; with_reducible repeat (first | exact (Bu.alloc g W nd0).trans h_ | refine Bu.to_alloc ?_ _ | refine put10_bu ?_ (Nat.le_refl _) _ _ _ _ _ _ _ _ _ _ | refine put10_bu ?_ (Nat.le_of_lt HZ1.out) _ _ _ _ _ _ _ _ _ _ | refine put10_bu ?_ (HB1.out.size) _ _ _ _ _ _ _ _ _ _ | refine put10_bu ?_ (HB2.out.size) _ _ _ _ _ _ _ _ _ _)) : q := h h0
set_option maxHeartbeats 8000000 in
set_option maxRecDepth 100000 in
theorem row_product_ok (toks : List Tok) (en i : Int) (n n1 : Nat) (l : List ByteArray) (hl : l.length ≤ 1000) (hlen : toks.length ≤ 1000000) (g qs : Nat) (W : World) (hp : PS g toks en (n : Int) W) (hqs : W.heap[qs]? = some (.cells (l.map Value.string).toArray 9 (0, 0))) (hgs : qs ≠ g) (a : TN) (r : PR × Nat) (hf : Does 93 toks en i n (.ok a, n1)) (hr : RowR 93 toks en i l a n1 r) :
    Calls Tryz.prog 92 #[ptr g, .int .i64 i, .func (.func 93) #[ptr g] #[], .slice (some ⟨qs, 0, none⟩) l.length l.length] W fun e W' => PS g toks en (r.2 : Int) W' ∧ Bu g W W' ∧ Ret W.heap.size r.1 W' e := by
  have hu := Tryz.underlying31
  have HG := Lib.hid hp.lt
  have HP0 := Lib.hid (hp.alloc nd0)
  have HB0 := Lib.hid (Bu.refl g (W.alloc nd0))
  have BK0 := Lib.hid (blk_new W nd0)
  have HPW := Lib.hid hp
  have HF := Lib.hid hf
  have HLEN := Lib.hid hlen
  have HL := Lib.hid hl
  have HQS := Lib.hid hqs
  have HGS := Lib.hid hgs
  have HR := Lib.hid hr
  clear hp hf hr hlen hl hqs hgs
  go_enter Tryz.func92, Tryz.ntmps92
  go_wp2_with (first | (go_at_call 93; (with_reducible refine (HF.out.ok g _ ?sp).mono ?_); (case sp => exact HP0.out); rintro e w1 ⟨hp, hb, v1, rfl, hv⟩; obtain ⟨AA1, kk1, rfl⟩ := Kd.V_slice hv; have HV1 := Lib.hid (Kd.V_mono (ok' := (fun k => W.heap.size < k ∧ k ≠ w1.heap.size)) (vN.cut hv) (fun k hk => ⟨lo (g := g) (o := nd0) (W := W) (Uq23 HB0.out) hk.1, Nat.ne_of_lt hk.2⟩)); clear hv; have HP1 := Lib.hid hp; have HB1 := Lib.hid (Bu.trans (g := g) (a := W.alloc nd0) (Uq23 HB0.out) hb); have BK1 := Lib.hid (hb.blk (k := W.heap.size) (o := nd0) (Uq24 BK0.out) (Nat.ne_of_gt HG.out)); clear hp hb; (try clear c0 c1 c2 c3 c4 c5 c6 c7 c8 c9 z0 z1 z2 z3 z4 z5 z6 z7 z8 z9); (try clear a0 a1 a2 a3 a4 a5 a6 a7 a8 a9 x0 x1 x2 x3 x4 x5 x6 x7 x8 x9 hsa); obtain ⟨⟨c0, c1, c2, c3, c4, c5, c6, c7, c8, c9⟩, z0, z1, z2, z3, z4, z5, z6, z7, z8, z9⟩ := z10 BK1.out; have HZ1 := Lib.hid (blk_lt BK1.out)))
  go_loopw [11] (RowS 93 toks en i l g W w1.heap.size r) (fun v wr => 2 * (toks.length - atOf g wr) + errMu v)
  case atStart => exact Or.inl ⟨a, n1, AA1, kk1, rfl, HR.out, HP1.out.alloc _, HB1.out.to_alloc _, blk_alloc BK1.out _, blk_new _ _, Kd.V_alloc HV1.out _⟩
  case round =>
    clear HR HF HV1 HP0
    rcases hrel with ⟨a', n', AA, kk, rfl, hr, hp, hb, hbk, hba, hv⟩ | ⟨p, c, n', q, rfl, rfl, hp, hb, hbk, he, hq⟩
    · have HPr := Lib.hid hp
      have HBr := Lib.hid hb
      have BKr := Lib.hid hbk
      have BA := Lib.hid hba
      have HV := Lib.hid hv
      have HQ0 := Lib.hid ((hb.blk (blk_alloc HQS.out nd0)) HGS.out)
      clear hp hb hbk hba hv
      cases hr with
      | stop s n2 hn hs =>
        have HN := Lib.hid hn
        have HS := Lib.hid hs
        clear hn hs
        go_wp2_with (first | (go_at_call 75; (with_reducible refine (sign_of g toks en _ HN.out _ _ _ _ _ _ _ HS.out HL.out HLEN.out _ ?sp ?s2 ?s3 ?s4).mono ?_); (case sp => exact (Uq25 HPr.out)); (case s2 => exact strC HQ0.out HL.out); (case s3 => exact Nat.le_refl _); (case s4 => rfl); rintro e w2 ⟨rfl, hp, hb⟩; have HV2 := Lib.hid (vN.cut (vN.bu (ok := (fun k => W.heap.size < k ∧ k ≠ w1.heap.size)) HV.out hb (fun k hk => Nat.ne_of_gt (Nat.lt_trans HG.out hk.1)))); have HQ2 := Lib.hid (hb.blk (Uq26 HQ0.out) HGS.out); have HP2 := Lib.hid hp; have HB2 := Lib.hid (Bu.trans (g := g) (a := W.alloc nd0) (Uq23 HBr.out) hb); have BK2 := Lib.hid (hb.blk (k := W.heap.size) (o := nd0) (Uq24 BKr.out) (Nat.ne_of_gt HG.out)); have BA2 := Lib.hid (hb.blk (k := w1.heap.size) (o := ndO a' (.slice AA a'.f4.length kk)) (Uq24 BA.out) (Nat.ne_of_gt (Nat.lt_trans HG.out HZ1.out))); clear hp hb; (try clear c0 c1 c2 c3 c4 c5 c6 c7 c8 c9 z0 z1 z2 z3 z4 z5 z6 z7 z8 z9); (try clear a0 a1 a2 a3 a4 a5 a6 a7 a8 a9 x0 x1 x2 x3 x4 x5 x6 x7 x8 x9 hsa); obtain ⟨⟨c0, c1, c2, c3, c4, c5, c6, c7, c8, c9⟩, z0, z1, z2, z3, z4, z5, z6, z7, z8, z9⟩ := z10 BK2.out; obtain ⟨⟨a0, a1, a2, a3, a4, a5, a6, a7, a8, a9⟩, x0, x1, x2, x3, x4, x5, x6, x7, x8, x9⟩ := z10 BA2.out; have hsa := blk_lt BA2.out; have HZ2 := Lib.hid (blk_lt BK2.out); have HL12 := Lib.hid (blk_lt BA2.out)))
        refine bodyPost_ret (results_ct rfl _ _ W.heap.size 31 _ (0, 0) _ rfl (Uq4 BK2.out) hu rfl (by kernel_rfl)) rfl ?_
        refine ⟨?_, ?_, .slice AA a'.f4.length kk, ?_, Kd.V_mono (put10_vN (ok := fun k => W.heap.size < k) (Kd.V_mono HV2.out (fun k hk => hk.1.1)) (fun k hk => Nat.ne_of_gt hk) _ _ _ _ _ _ _ _ _ _) (fun k hk => Nat.le_of_lt hk)⟩
        · exact (Uq25 HP2.out)
        · exact (Uq27 HB2.out)
        · rfl
      | bad s n2 p c n3 hn hs hf hle =>
        have HN := Lib.hid hn
        have HS := Lib.hid hs
        have HF := Lib.hid hf
        have hlt := (signV_lt hs).1
        have HLT := Lib.hid hlt
        have HLE := Lib.hid hle
        clear hn hs hf hlt hle
        go_wp2_with (first | (go_at_call 75; (with_reducible refine (sign_of g toks en _ HN.out _ _ _ _ _ _ _ HS.out HL.out HLEN.out _ ?sp ?s2 ?s3 ?s4).mono ?_); (case sp => exact (Uq25 HPr.out)); (case s2 => exact strC HQ0.out HL.out); (case s3 => exact Nat.le_refl _); (case s4 => rfl); rintro e w2 ⟨rfl, hp, hb⟩; have HV2 := Lib.hid (vN.cut (vN.bu (ok := (fun k => W.heap.size < k ∧ k ≠ w1.heap.size)) HV.out hb (fun k hk => Nat.ne_of_gt (Nat.lt_trans HG.out hk.1)))); have HQ2 := Lib.hid (hb.blk (Uq26 HQ0.out) HGS.out); have HP2 := Lib.hid hp; have HB2 := Lib.hid (Bu.trans (g := g) (a := W.alloc nd0) (Uq23 HBr.out) hb); have BK2 := Lib.hid (hb.blk (k := W.heap.size) (o := nd0) (Uq24 BKr.out) (Nat.ne_of_gt HG.out)); have BA2 := Lib.hid (hb.blk (k := w1.heap.size) (o := ndO a' (.slice AA a'.f4.length kk)) (Uq24 BA.out) (Nat.ne_of_gt (Nat.lt_trans HG.out HZ1.out))); clear hp hb; (try clear c0 c1 c2 c3 c4 c5 c6 c7 c8 c9 z0 z1 z2 z3 z4 z5 z6 z7 z8 z9); (try clear a0 a1 a2 a3 a4 a5 a6 a7 a8 a9 x0 x1 x2 x3 x4 x5 x6 x7 x8 x9 hsa); obtain ⟨⟨c0, c1, c2, c3, c4, c5, c6, c7, c8, c9⟩, z0, z1, z2, z3, z4, z5, z6, z7, z8, z9⟩ := z10 BK2.out; obtain ⟨⟨a0, a1, a2, a3, a4, a5, a6, a7, a8, a9⟩, x0, x1, x2, x3, x4, x5, x6, x7, x8, x9⟩ := z10 BA2.out; have hsa := blk_lt BA2.out; have HZ2 := Lib.hid (blk_lt BK2.out); have HL12 := Lib.hid (blk_lt BA2.out)) | (go_at_call 93; (with_reducible refine (HF.out.bad g _ ?sp).mono ?_); (case sp => exact (Uq25 HP2.out)); rintro e w3 ⟨hp, hb, q, rfl, he, hq⟩; have HE := Lib.hid he; have HQ := Lib.hid (lo (g := g) (o := nd0) (W := W) (Uq23 HB2.out) hq); have HQ2_ := Lib.hid (show w2.heap.size < q by (have hq' := hq; simp at hq'; omega)); clear he hq; have HN2 := Lib.hid (hb.blk (k := w2.heap.size) (o := nd0) (blk_new _ _) (Nat.ne_of_gt (Nat.lt_trans HG.out HZ2.out))); have HP3 := Lib.hid hp; have HB3 := Lib.hid (Bu.trans (g := g) (a := W.alloc nd0) (Uq23 HB2.out) hb); have BK3 := Lib.hid (hb.blk (k := W.heap.size) (o := nd0) (Uq24 BK2.out) (Nat.ne_of_gt HG.out)); have BA3 := Lib.hid (hb.blk (k := w1.heap.size) (o := ndO a' (.slice AA a'.f4.length kk)) (Uq24 BA2.out) (Nat.ne_of_gt (Nat.lt_trans HG.out HZ1.out))); clear hp hb; (try clear c0 c1 c2 c3 c4 c5 c6 c7 c8 c9 z0 z1 z2 z3 z4 z5 z6 z7 z8 z9); (try clear a0 a1 a2 a3 a4 a5 a6 a7 a8 a9 x0 x1 x2 x3 x4 x5 x6 x7 x8 x9 hsa); obtain ⟨⟨c0, c1, c2, c3, c4, c5, c6, c7, c8, c9⟩, z0, z1, z2, z3, z4, z5, z6, z7, z8, z9⟩ := z10 BK3.out; obtain ⟨⟨a0, a1, a2, a3, a4, a5, a6, a7, a8, a9⟩, x0, x1, x2, x3, x4, x5, x6, x7, x8, x9⟩ := z10 BA3.out; have hsa := blk_lt BA3.out; obtain ⟨⟨b0, b1, b2, b3, b4, b5, b6, b7, b8, b9⟩, y0, y1, y2, y3, y4, y5, y6, y7, y8, y9⟩ := z10 HN2.out))
        go_roundw
        case rel => exact Or.inr ⟨p, c, n3, q, rfl, rfl, (Uq25 HP3.out), (Uq23 HB3.out), (Uq24 BK3.out), (put10_old (Nat.ne_of_gt HQ2_.out) _ _ _ _ _ _ _ _ _ _).trans HE.out, HQ.out⟩
        case measure => exact mu_bad HPr.out HLT.out HLE.out _ (Uq25 HP3.out)
      | more s n2 b n3 hn hs hf hlt h =>
        have HN := Lib.hid hn
        have HS := Lib.hid hs
        have HF := Lib.hid hf
        have HLS := Lib.hid (signV_lt hs).1
        have HLT := Lib.hid hlt
        have HR := Lib.hid h
        clear hn hs hf hlt h
        go_wp2_with (first | (go_at_call 75; (with_reducible refine (sign_of g toks en _ HN.out _ _ _ _ _ _ _ HS.out HL.out HLEN.out _ ?sp ?s2 ?s3 ?s4).mono ?_); (case sp => exact (Uq25 HPr.out)); (case s2 => exact strC HQ0.out HL.out); (case s3 => exact Nat.le_refl _); (case s4 => rfl); rintro e w2 ⟨rfl, hp, hb⟩; have HV2 := Lib.hid (vN.cut (vN.bu (ok := (fun k => W.heap.size < k ∧ k ≠ w1.heap.size)) HV.out hb (fun k hk => Nat.ne_of_gt (Nat.lt_trans HG.out hk.1)))); have HQ2 := Lib.hid (hb.blk (Uq26 HQ0.out) HGS.out); have HP2 := Lib.hid hp; have HB2 := Lib.hid (Bu.trans (g := g) (a := W.alloc nd0) (Uq23 HBr.out) hb); have BK2 := Lib.hid (hb.blk (k := W.heap.size) (o := nd0) (Uq24 BKr.out) (Nat.ne_of_gt HG.out)); have BA2 := Lib.hid (hb.blk (k := w1.heap.size) (o := ndO a' (.slice AA a'.f4.length kk)) (Uq24 BA.out) (Nat.ne_of_gt (Nat.lt_trans HG.out HZ1.out))); clear hp hb; (try clear c0 c1 c2 c3 c4 c5 c6 c7 c8 c9 z0 z1 z2 z3 z4 z5 z6 z7 z8 z9); (try clear a0 a1 a2 a3 a4 a5 a6 a7 a8 a9 x0 x1 x2 x3 x4 x5 x6 x7 x8 x9 hsa); obtain ⟨⟨c0, c1, c2, c3, c4, c5, c6, c7, c8, c9⟩, z0, z1, z2, z3, z4, z5, z6, z7, z8, z9⟩ := z10 BK2.out; obtain ⟨⟨a0, a1, a2, a3, a4, a5, a6, a7, a8, a9⟩, x0, x1, x2, x3, x4, x5, x6, x7, x8, x9⟩ := z10 BA2.out; have hsa := blk_lt BA2.out; have HZ2 := Lib.hid (blk_lt BK2.out); have HL12 := Lib.hid (blk_lt BA2.out)) | (go_at_call 93; (with_reducible refine (HF.out.ok g _ ?sp).mono ?_); (case sp => exact (Uq25 HP2.out)); rintro e w3 ⟨hp, hb, v3, rfl, hv⟩; obtain ⟨AA3, kk3, rfl⟩ := Kd.V_slice hv; have HV3 := Lib.hid (Kd.V_mono (ok' := fun k => (fun k => W.heap.size < k ∧ k ≠ w1.heap.size) k ∧ k ≠ w2.heap.size) hv (fun k hk => (by have h1 := HZ1.out; have h2 := HZ2.out; have h12 := HL12.out; simp at hk; refine ⟨⟨?_, ?_⟩, ?_⟩ <;> omega))); have HV2b := Lib.hid (vN.bu (ok := fun k => (fun k => W.heap.size < k ∧ k ≠ w1.heap.size) k ∧ k < w2.heap.size) (Kd.V_alloc HV2.out nd0) hb (fun k hk => Nat.ne_of_gt (Nat.lt_trans HG.out hk.1.1))); clear hv; have HN2 := Lib.hid (hb.blk (k := w2.heap.size) (o := nd0) (blk_new _ _) (Nat.ne_of_gt (Nat.lt_trans HG.out HZ2.out))); have HP3 := Lib.hid hp; have HB3 := Lib.hid (Bu.trans (g := g) (a := W.alloc nd0) (Uq23 HB2.out) hb); have BK3 := Lib.hid (hb.blk (k := W.heap.size) (o := nd0) (Uq24 BK2.out) (Nat.ne_of_gt HG.out)); have BA3 := Lib.hid (hb.blk (k := w1.heap.size) (o := ndO a' (.slice AA a'.f4.length kk)) (Uq24 BA2.out) (Nat.ne_of_gt (Nat.lt_trans HG.out HZ1.out))); clear hp hb; (try clear c0 c1 c2 c3 c4 c5 c6 c7 c8 c9 z0 z1 z2 z3 z4 z5 z6 z7 z8 z9); (try clear a0 a1 a2 a3 a4 a5 a6 a7 a8 a9 x0 x1 x2 x3 x4 x5 x6 x7 x8 x9 hsa); obtain ⟨⟨c0, c1, c2, c3, c4, c5, c6, c7, c8, c9⟩, z0, z1, z2, z3, z4, z5, z6, z7, z8, z9⟩ := z10 BK3.out; obtain ⟨⟨a0, a1, a2, a3, a4, a5, a6, a7, a8, a9⟩, x0, x1, x2, x3, x4, x5, x6, x7, x8, x9⟩ := z10 BA3.out; have hsa := blk_lt BA3.out; obtain ⟨⟨b0, b1, b2, b3, b4, b5, b6, b7, b8, b9⟩, y0, y1, y2, y3, y4, y5, y6, y7, y8, y9⟩ := z10 HN2.out; have hsb := blk_lt HN2.out; have HSB := Lib.hid hsb; have hs12 : w1.heap.size < w2.heap.size := HL12.out; have hs02 : W.heap.size < w2.heap.size := HZ2.out) | (go_at_call 76; (with_reducible refine (two_calls (fun k => W.heap.size < k ∧ k ≠ w1.heap.size) _ a' b (.slice AA a'.f4.length kk) (.slice AA3 b.f4.length kk3) _ ?sk ?sa ?sb).mono ?_); (case sk => exact (fun k hk => (by have h1 := HZ1.out; have h2 := HZ2.out; have h12 := HL12.out; have h3 := HSB.out; simp [World.setCell] at hk; refine ⟨?_, ?_⟩ <;> omega))); (case sa => exact Kd.V_mono (put10_vN HV2b.out (fun k hk => Nat.ne_of_lt hk.2) _ _ _ _ _ _ _ _ _ _) (fun k hk => hk.1)); (case sb => exact Kd.V_mono (put10_vN HV3.out (fun k hk => hk.2) _ _ _ _ _ _ _ _ _ _) (fun k hk => hk.1)); rintro e w4 ⟨v4, rfl, hv, hbl⟩; obtain ⟨AA4, kk4, rfl⟩ := Kd.V_slice hv; have HV4 := Lib.hid hv; clear hv; have hb := Bu.of_below (g := g) hbl; have hp := PS.below (g := g) (toks := toks) (en := en) (at_ := (n3 : Int)) (Uq25 HP3.out) hbl; clear hbl; have HP4 := Lib.hid hp; have HB4 := Lib.hid (Bu.trans (g := g) (a := W.alloc nd0) (Uq23 HB3.out) hb); have BK4 := Lib.hid (hb.blk (k := W.heap.size) (o := nd0) (Uq24 BK3.out) (Nat.ne_of_gt HG.out)); have BA4 := Lib.hid (hb.blk (k := w1.heap.size) (o := ndO a' (.slice AA a'.f4.length kk)) (Uq24 BA3.out) (Nat.ne_of_gt (Nat.lt_trans HG.out HZ1.out))); clear hp hb; (try clear c0 c1 c2 c3 c4 c5 c6 c7 c8 c9 z0 z1 z2 z3 z4 z5 z6 z7 z8 z9); (try clear a0 a1 a2 a3 a4 a5 a6 a7 a8 a9 x0 x1 x2 x3 x4 x5 x6 x7 x8 x9 hsa); obtain ⟨⟨c0, c1, c2, c3, c4, c5, c6, c7, c8, c9⟩, z0, z1, z2, z3, z4, z5, z6, z7, z8, z9⟩ := z10 BK4.out; obtain ⟨⟨a0, a1, a2, a3, a4, a5, a6, a7, a8, a9⟩, x0, x1, x2, x3, x4, x5, x6, x7, x8, x9⟩ := z10 BA4.out; have hsa := blk_lt BA4.out))
        go_roundw
        case rel => exact Or.inl ⟨twoT s a' b, n3, AA4, kk4, rfl, HR.out, (Uq25 HP4.out), (Uq23 HB4.out), (Uq24 BK4.out), put10_blk BA4.out _ _ _ _ _ _ _ _ _ _, put10_vN HV4.out (fun k hk => hk.2) _ _ _ _ _ _ _ _ _ _⟩
        case measure => exact mu_more HPr.out HLS.out HLT.out _ (Uq25 HP4.out)
    · have HP2 := Lib.hid hp
      have HB2 := Lib.hid hb
      have BK2 := Lib.hid hbk
      have HE := Lib.hid he
      have HQ := Lib.hid hq
      obtain ⟨⟨c0, c1, c2, c3, c4, c5, c6, c7, c8, c9⟩, z0, z1, z2, z3, z4, z5, z6, z7, z8, z9⟩ := z10 BK2.out
      clear hp hb hbk he hq
      go_wp2
      refine bodyPost_ret (results_ct rfl _ _ W.heap.size 31 _ (0, 0) _ rfl (Uq4 BK2.out) hu rfl (by kernel_rfl)) rfl ?_
      refine ⟨?_, ?_, q, ?_, ?_, Nat.le_of_lt HQ.out⟩
      · exact (Uq25 HP2.out)
      · exact (Uq27 HB2.out)
      · rfl
      · exact (Uq7 HE.out)
set_option maxHeartbeats 8000000 in
set_option maxRecDepth 100000 in
theorem row_product_bad (toks : List Tok) (en i : Int) (n n1 : Nat) (l : List ByteArray) (hl : l.length ≤ 1000) (hlen : toks.length ≤ 1000000) (g qs : Nat) (W : World) (hp : PS g toks en (n : Int) W) (hqs : W.heap[qs]? = some (.cells (l.map Value.string).toArray 9 (0, 0))) (hgs : qs ≠ g) (p c : Int) (hf : Does 93 toks en i n (.bad p c, n1)) :
    Calls Tryz.prog 92 #[ptr g, .int .i64 i, .func (.func 93) #[ptr g] #[], .slice (some ⟨qs, 0, none⟩) l.length l.length] W fun e W' => PS g toks en (((PR.bad p c, n1) : PR × Nat).2 : Int) W' ∧ Bu g W W' ∧ Ret W.heap.size ((PR.bad p c, n1) : PR × Nat).1 W' e := by
  have hu := Tryz.underlying31
  have HG := Lib.hid hp.lt
  have HP0 := Lib.hid (hp.alloc nd0)
  have HB0 := Lib.hid (Bu.refl g (W.alloc nd0))
  have BK0 := Lib.hid (blk_new W nd0)
  have HPW := Lib.hid hp
  have HF := Lib.hid hf
  have HLEN := Lib.hid hlen
  have HL := Lib.hid hl
  have HQS := Lib.hid hqs
  have HGS := Lib.hid hgs
  clear hp hf hlen hl hqs hgs
  go_enter Tryz.func92, Tryz.ntmps92
  go_wp2_with (first | (go_at_call 93; (with_reducible refine (HF.out.bad g _ ?sp).mono ?_); (case sp => exact HP0.out); rintro e w1 ⟨hp, hb, q, rfl, he, hq⟩; have HE := Lib.hid he; have HQ := Lib.hid (lo (g := g) (o := nd0) (W := W) (Uq23 HB0.out) hq); clear he hq; have HP1 := Lib.hid hp; have HB1 := Lib.hid (Bu.trans (g := g) (a := W.alloc nd0) (Uq23 HB0.out) hb); have BK1 := Lib.hid (hb.blk (k := W.heap.size) (o := nd0) (Uq24 BK0.out) (Nat.ne_of_gt HG.out)); clear hp hb; (try clear c0 c1 c2 c3 c4 c5 c6 c7 c8 c9 z0 z1 z2 z3 z4 z5 z6 z7 z8 z9); (try clear a0 a1 a2 a3 a4 a5 a6 a7 a8 a9 x0 x1 x2 x3 x4 x5 x6 x7 x8 x9 hsa); obtain ⟨⟨c0, c1, c2, c3, c4, c5, c6, c7, c8, c9⟩, z0, z1, z2, z3, z4, z5, z6, z7, z8, z9⟩ := z10 BK1.out; have HZ1 := Lib.hid (blk_lt BK1.out)))
  go_loopw [11] (RowE g W p c n1 toks en) (fun _ _ => 0)
  case atStart => exact ⟨q, rfl, HP1.out.alloc _, HB1.out.to_alloc _, blk_alloc BK1.out _, blk_alloc HE.out _, HQ.out⟩
  case round =>
    clear HF HP0 HP1 HB1 BK1 HE HQ
    obtain ⟨q, rfl, hp, hb, hbk, he, hq⟩ := hrel
    have HP2 := Lib.hid hp
    have HB2 := Lib.hid hb
    have BK2 := Lib.hid hbk
    have HE := Lib.hid he
    have HQ := Lib.hid hq
    (try clear c0 c1 c2 c3 c4 c5 c6 c7 c8 c9 z0 z1 z2 z3 z4 z5 z6 z7 z8 z9)
    obtain ⟨⟨c0, c1, c2, c3, c4, c5, c6, c7, c8, c9⟩, z0, z1, z2, z3, z4, z5, z6, z7, z8, z9⟩ := z10 BK2.out
    clear hp hb hbk he hq
    go_wp2
    refine bodyPost_ret (results_ct rfl _ _ W.heap.size 31 _ (0, 0) _ rfl (Uq4 BK2.out) hu rfl (by kernel_rfl)) rfl ?_
    refine ⟨?_, ?_, q, ?_, ?_, Nat.le_of_lt HQ.out⟩
    · exact (Uq25 HP2.out)
    · exact (Uq27 HB2.out)
    · rfl
    · exact (Uq7 HE.out)
end Go.Proofs.YtnomfbmebafolaaGreatDoor.P

namespace Go.Proofs.YtnomfbmebafolaaGreatDoor.P
open Go.RowKit Go.Proofs.YtnomfbmebafolaaGreatDoorW.PrintWords Go.Proofs.YtnomfbmebafolaaGreatDoorW.PrintLast Go.Proofs.YtnomfbmebafolaaGreatDoorW.PrintMore
open M (I64)
set_option linter.unusedVariables false
set_option linter.unusedSimpArgs false
set_option maxHeartbeats 8000000 in
set_option maxRecDepth 100000 in
theorem row_power_ok (toks : List Tok) (en i : Int) (n n1 : Nat) (l : List ByteArray) (hl : l.length ≤ 1000) (hlen : toks.length ≤ 1000000) (g qs : Nat) (W : World) (hp : PS g toks en (n : Int) W) (hqs : W.heap[qs]? = some (.cells (l.map Value.string).toArray 9 (0, 0))) (hgs : qs ≠ g) (a : TN) (r : PR × Nat) (hf : Does 109 toks en i n (.ok a, n1)) (hr : RowR 109 toks en i l a n1 r) :
    Calls Tryz.prog 92 #[ptr g, .int .i64 i, .func (.func 109) #[ptr g] #[], .slice (some ⟨qs, 0, none⟩) l.length l.length] W fun e W' => PS g toks en (r.2 : Int) W' ∧ Bu g W W' ∧ Ret W.heap.size r.1 W' e := by
  have hu := Tryz.underlying31
  have HG := Lib.hid hp.lt
  have HP0 := Lib.hid (hp.alloc nd0)
  have HB0 := Lib.hid (Bu.refl g (W.alloc nd0))
  have BK0 := Lib.hid (blk_new W nd0)
  have HPW := Lib.hid hp
  have HF := Lib.hid hf
  have HLEN := Lib.hid hlen
  have HL := Lib.hid hl
  have HQS := Lib.hid hqs
  have HGS := Lib.hid hgs
  have HR := Lib.hid hr
  clear hp hf hr hlen hl hqs hgs
  go_enter Tryz.func92, Tryz.ntmps92
  go_wp2_with (first | (go_at_call 109; (with_reducible refine (HF.out.ok g _ ?sp).mono ?_); (case sp => exact HP0.out); rintro e w1 ⟨hp, hb, v1, rfl, hv⟩; obtain ⟨AA1, kk1, rfl⟩ := Kd.V_slice hv; have HV1 := Lib.hid (Kd.V_mono (ok' := (fun k => W.heap.size < k ∧ k ≠ w1.heap.size)) (vN.cut hv) (fun k hk => ⟨lo (g := g) (o := nd0) (W := W) (Uq23 HB0.out) hk.1, Nat.ne_of_lt hk.2⟩)); clear hv; have HP1 := Lib.hid hp; have HB1 := Lib.hid (Bu.trans (g := g) (a := W.alloc nd0) (Uq23 HB0.out) hb); have BK1 := Lib.hid (hb.blk (k := W.heap.size) (o := nd0) (Uq24 BK0.out) (Nat.ne_of_gt HG.out)); clear hp hb; (try clear c0 c1 c2 c3 c4 c5 c6 c7 c8 c9 z0 z1 z2 z3 z4 z5 z6 z7 z8 z9); (try clear a0 a1 a2 a3 a4 a5 a6 a7 a8 a9 x0 x1 x2 x3 x4 x5 x6 x7 x8 x9 hsa); obtain ⟨⟨c0, c1, c2, c3, c4, c5, c6, c7, c8, c9⟩, z0, z1, z2, z3, z4, z5, z6, z7, z8, z9⟩ := z10 BK1.out; have HZ1 := Lib.hid (blk_lt BK1.out)))
  go_loopw [11] (RowS 109 toks en i l g W w1.heap.size r) (fun v wr => 2 * (toks.length - atOf g wr) + errMu v)
  case atStart => exact Or.inl ⟨a, n1, AA1, kk1, rfl, HR.out, HP1.out.alloc _, HB1.out.to_alloc _, blk_alloc BK1.out _, blk_new _ _, Kd.V_alloc HV1.out _⟩
  case round =>
    clear HR HF HV1 HP0
    rcases hrel with ⟨a', n', AA, kk, rfl, hr, hp, hb, hbk, hba, hv⟩ | ⟨p, c, n', q, rfl, rfl, hp, hb, hbk, he, hq⟩
    · have HPr := Lib.hid hp
      have HBr := Lib.hid hb
      have BKr := Lib.hid hbk
      have BA := Lib.hid hba
      have HV := Lib.hid hv
      have HQ0 := Lib.hid ((hb.blk (blk_alloc HQS.out nd0)) HGS.out)
      clear hp hb hbk hba hv
      cases hr with
      | stop s n2 hn hs =>
        have HN := Lib.hid hn
        have HS := Lib.hid hs
        clear hn hs
        go_wp2_with (first | (go_at_call 75; (with_reducible refine (sign_of g toks en _ HN.out _ _ _ _ _ _ _ HS.out HL.out HLEN.out _ ?sp ?s2 ?s3 ?s4).mono ?_); (case sp => exact (Uq25 HPr.out)); (case s2 => exact strC HQ0.out HL.out); (case s3 => exact Nat.le_refl _); (case s4 => rfl); rintro e w2 ⟨rfl, hp, hb⟩; have HV2 := Lib.hid (vN.cut (vN.bu (ok := (fun k => W.heap.size < k ∧ k ≠ w1.heap.size)) HV.out hb (fun k hk => Nat.ne_of_gt (Nat.lt_trans HG.out hk.1)))); have HQ2 := Lib.hid (hb.blk (Uq26 HQ0.out) HGS.out); have HP2 := Lib.hid hp; have HB2 := Lib.hid (Bu.trans (g := g) (a := W.alloc nd0) (Uq23 HBr.out) hb); have BK2 := Lib.hid (hb.blk (k := W.heap.size) (o := nd0) (Uq24 BKr.out) (Nat.ne_of_gt HG.out)); have BA2 := Lib.hid (hb.blk (k := w1.heap.size) (o := ndO a' (.slice AA a'.f4.length kk)) (Uq24 BA.out) (Nat.ne_of_gt (Nat.lt_trans HG.out HZ1.out))); clear hp hb; (try clear c0 c1 c2 c3 c4 c5 c6 c7 c8 c9 z0 z1 z2 z3 z4 z5 z6 z7 z8 z9); (try clear a0 a1 a2 a3 a4 a5 a6 a7 a8 a9 x0 x1 x2 x3 x4 x5 x6 x7 x8 x9 hsa); obtain ⟨⟨c0, c1, c2, c3, c4, c5, c6, c7, c8, c9⟩, z0, z1, z2, z3, z4, z5, z6, z7, z8, z9⟩ := z10 BK2.out; obtain ⟨⟨a0, a1, a2, a3, a4, a5, a6, a7, a8, a9⟩, x0, x1, x2, x3, x4, x5, x6, x7, x8, x9⟩ := z10 BA2.out; have hsa := blk_lt BA2.out; have HZ2 := Lib.hid (blk_lt BK2.out); have HL12 := Lib.hid (blk_lt BA2.out)))
        refine bodyPost_ret (results_ct rfl _ _ W.heap.size 31 _ (0, 0) _ rfl (Uq4 BK2.out) hu rfl (by kernel_rfl)) rfl ?_
        refine ⟨?_, ?_, .slice AA a'.f4.length kk, ?_, Kd.V_mono (put10_vN (ok := fun k => W.heap.size < k) (Kd.V_mono HV2.out (fun k hk => hk.1.1)) (fun k hk => Nat.ne_of_gt hk) _ _ _ _ _ _ _ _ _ _) (fun k hk => Nat.le_of_lt hk)⟩
        · exact (Uq25 HP2.out)
        · exact (Uq27 HB2.out)
        · rfl
      | bad s n2 p c n3 hn hs hf hle =>
        have HN := Lib.hid hn
        have HS := Lib.hid hs
        have HF := Lib.hid hf
        have hlt := (signV_lt hs).1
        have HLT := Lib.hid hlt
        have HLE := Lib.hid hle
        clear hn hs hf hlt hle
        go_wp2_with (first | (go_at_call 75; (with_reducible refine (sign_of g toks en _ HN.out _ _ _ _ _ _ _ HS.out HL.out HLEN.out _ ?sp ?s2 ?s3 ?s4).mono ?_); (case sp => exact (Uq25 HPr.out)); (case s2 => exact strC HQ0.out HL.out); (case s3 => exact Nat.le_refl _); (case s4 => rfl); rintro e w2 ⟨rfl, hp, hb⟩; have HV2 := Lib.hid (vN.cut (vN.bu (ok := (fun k => W.heap.size < k ∧ k ≠ w1.heap.size)) HV.out hb (fun k hk => Nat.ne_of_gt (Nat.lt_trans HG.out hk.1)))); have HQ2 := Lib.hid (hb.blk (Uq26 HQ0.out) HGS.out); have HP2 := Lib.hid hp; have HB2 := Lib.hid (Bu.trans (g := g) (a := W.alloc nd0) (Uq23 HBr.out) hb); have BK2 := Lib.hid (hb.blk (k := W.heap.size) (o := nd0) (Uq24 BKr.out) (Nat.ne_of_gt HG.out)); have BA2 := Lib.hid (hb.blk (k := w1.heap.size) (o := ndO a' (.slice AA a'.f4.length kk)) (Uq24 BA.out) (Nat.ne_of_gt (Nat.lt_trans HG.out HZ1.out))); clear hp hb; (try clear c0 c1 c2 c3 c4 c5 c6 c7 c8 c9 z0 z1 z2 z3 z4 z5 z6 z7 z8 z9); (try clear a0 a1 a2 a3 a4 a5 a6 a7 a8 a9 x0 x1 x2 x3 x4 x5 x6 x7 x8 x9 hsa); obtain ⟨⟨c0, c1, c2, c3, c4, c5, c6, c7, c8, c9⟩, z0, z1, z2, z3, z4, z5, z6, z7, z8, z9⟩ := z10 BK2.out; obtain ⟨⟨a0, a1, a2, a3, a4, a5, a6, a7, a8, a9⟩, x0, x1, x2, x3, x4, x5, x6, x7, x8, x9⟩ := z10 BA2.out; have hsa := blk_lt BA2.out; have HZ2 := Lib.hid (blk_lt BK2.out); have HL12 := Lib.hid (blk_lt BA2.out)) | (go_at_call 109; (with_reducible refine (HF.out.bad g _ ?sp).mono ?_); (case sp => exact (Uq25 HP2.out)); rintro e w3 ⟨hp, hb, q, rfl, he, hq⟩; have HE := Lib.hid he; have HQ := Lib.hid (lo (g := g) (o := nd0) (W := W) (Uq23 HB2.out) hq); have HQ2_ := Lib.hid (show w2.heap.size < q by (have hq' := hq; simp at hq'; omega)); clear he hq; have HN2 := Lib.hid (hb.blk (k := w2.heap.size) (o := nd0) (blk_new _ _) (Nat.ne_of_gt (Nat.lt_trans HG.out HZ2.out))); have HP3 := Lib.hid hp; have HB3 := Lib.hid (Bu.trans (g := g) (a := W.alloc nd0) (Uq23 HB2.out) hb); have BK3 := Lib.hid (hb.blk (k := W.heap.size) (o := nd0) (Uq24 BK2.out) (Nat.ne_of_gt HG.out)); have BA3 := Lib.hid (hb.blk (k := w1.heap.size) (o := ndO a' (.slice AA a'.f4.length kk)) (Uq24 BA2.out) (Nat.ne_of_gt (Nat.lt_trans HG.out HZ1.out))); clear hp hb; (try clear c0 c1 c2 c3 c4 c5 c6 c7 c8 c9 z0 z1 z2 z3 z4 z5 z6 z7 z8 z9); (try clear a0 a1 a2 a3 a4 a5 a6 a7 a8 a9 x0 x1 x2 x3 x4 x5 x6 x7 x8 x9 hsa); obtain ⟨⟨c0, c1, c2, c3, c4, c5, c6, c7, c8, c9⟩, z0, z1, z2, z3, z4, z5, z6, z7, z8, z9⟩ := z10 BK3.out; obtain ⟨⟨a0, a1, a2, a3, a4, a5, a6, a7, a8, a9⟩, x0, x1, x2, x3, x4, x5, x6, x7, x8, x9⟩ := z10 BA3.out; have hsa := blk_lt BA3.out; obtain ⟨⟨b0, b1, b2, b3, b4, b5, b6, b7, b8, b9⟩, y0, y1, y2, y3, y4, y5, y6, y7, y8, y9⟩ := z10 HN2.out))
        go_roundw
        case rel => exact Or.inr ⟨p, c, n3, q, rfl, rfl, (Uq25 HP3.out), (Uq23 HB3.out), (Uq24 BK3.out), (put10_old (Nat.ne_of_gt HQ2_.out) _ _ _ _ _ _ _ _ _ _).trans HE.out, HQ.out⟩
        case measure => exact mu_bad HPr.out HLT.out HLE.out _ (Uq25 HP3.out)
      | more s n2 b n3 hn hs hf hlt h =>
        have HN := Lib.hid hn
        have HS := Lib.hid hs
        have HF := Lib.hid hf
        have HLS := Lib.hid (signV_lt hs).1
        have HLT := Lib.hid hlt
        have HR := Lib.hid h
        clear hn hs hf hlt h
        go_wp2_with (first | (go_at_call 75; (with_reducible refine (sign_of g toks en _ HN.out _ _ _ _ _ _ _ HS.out HL.out HLEN.out _ ?sp ?s2 ?s3 ?s4).mono ?_); (case sp => exact (Uq25 HPr.out)); (case s2 => exact strC HQ0.out HL.out); (case s3 => exact Nat.le_refl _); (case s4 => rfl); rintro e w2 ⟨rfl, hp, hb⟩; have HV2 := Lib.hid (vN.cut (vN.bu (ok := (fun k => W.heap.size < k ∧ k ≠ w1.heap.size)) HV.out hb (fun k hk => Nat.ne_of_gt (Nat.lt_trans HG.out hk.1)))); have HQ2 := Lib.hid (hb.blk (Uq26 HQ0.out) HGS.out); have HP2 := Lib.hid hp; have HB2 := Lib.hid (Bu.trans (g := g) (a := W.alloc nd0) (Uq23 HBr.out) hb); have BK2 := Lib.hid (hb.blk (k := W.heap.size) (o := nd0) (Uq24 BKr.out) (Nat.ne_of_gt HG.out)); have BA2 := Lib.hid (hb.blk (k := w1.heap.size) (o := ndO a' (.slice AA a'.f4.length kk)) (Uq24 BA.out) (Nat.ne_of_gt (Nat.lt_trans HG.out HZ1.out))); clear hp hb; (try clear c0 c1 c2 c3 c4 c5 c6 c7 c8 c9 z0 z1 z2 z3 z4 z5 z6 z7 z8 z9); (try clear a0 a1 a2 a3 a4 a5 a6 a7 a8 a9 x0 x1 x2 x3 x4 x5 x6 x7 x8 x9 hsa); obtain ⟨⟨c0, c1, c2, c3, c4, c5, c6, c7, c8, c9⟩, z0, z1, z2, z3, z4, z5, z6, z7, z8, z9⟩ := z10 BK2.out; obtain ⟨⟨a0, a1, a2, a3, a4, a5, a6, a7, a8, a9⟩, x0, x1, x2, x3, x4, x5, x6, x7, x8, x9⟩ := z10 BA2.out; have hsa := blk_lt BA2.out; have HZ2 := Lib.hid (blk_lt BK2.out); have HL12 := Lib.hid (blk_lt BA2.out)) | (go_at_call 109; (with_reducible refine (HF.out.ok g _ ?sp).mono ?_); (case sp => exact (Uq25 HP2.out)); rintro e w3 ⟨hp, hb, v3, rfl, hv⟩; obtain ⟨AA3, kk3, rfl⟩ := Kd.V_slice hv; have HV3 := Lib.hid (Kd.V_mono (ok' := fun k => (fun k => W.heap.size < k ∧ k ≠ w1.heap.size) k ∧ k ≠ w2.heap.size) hv (fun k hk => (by have h1 := HZ1.out; have h2 := HZ2.out; have h12 := HL12.out; simp at hk; refine ⟨⟨?_, ?_⟩, ?_⟩ <;> omega))); have HV2b := Lib.hid (vN.bu (ok := fun k => (fun k => W.heap.size < k ∧ k ≠ w1.heap.size) k ∧ k < w2.heap.size) (Kd.V_alloc HV2.out nd0) hb (fun k hk => Nat.ne_of_gt (Nat.lt_trans HG.out hk.1.1))); clear hv; have HN2 := Lib.hid (hb.blk (k := w2.heap.size) (o := nd0) (blk_new _ _) (Nat.ne_of_gt (Nat.lt_trans HG.out HZ2.out))); have HP3 := Lib.hid hp; have HB3 := Lib.hid (Bu.trans (g := g) (a := W.alloc nd0) (Uq23 HB2.out) hb); have BK3 := Lib.hid (hb.blk (k := W.heap.size) (o := nd0) (Uq24 BK2.out) (Nat.ne_of_gt HG.out)); have BA3 := Lib.hid (hb.blk (k := w1.heap.size) (o := ndO a' (.slice AA a'.f4.length kk)) (Uq24 BA2.out) (Nat.ne_of_gt (Nat.lt_trans HG.out HZ1.out))); clear hp hb; (try clear c0 c1 c2 c3 c4 c5 c6 c7 c8 c9 z0 z1 z2 z3 z4 z5 z6 z7 z8 z9); (try clear a0 a1 a2 a3 a4 a5 a6 a7 a8 a9 x0 x1 x2 x3 x4 x5 x6 x7 x8 x9 hsa); obtain ⟨⟨c0, c1, c2, c3, c4, c5, c6, c7, c8, c9⟩, z0, z1, z2, z3, z4, z5, z6, z7, z8, z9⟩ := z10 BK3.out; obtain ⟨⟨a0, a1, a2, a3, a4, a5, a6, a7, a8, a9⟩, x0, x1, x2, x3, x4, x5, x6, x7, x8, x9⟩ := z10 BA3.out; have hsa := blk_lt BA3.out; obtain ⟨⟨b0, b1, b2, b3, b4, b5, b6, b7, b8, b9⟩, y0, y1, y2, y3, y4, y5, y6, y7, y8, y9⟩ := z10 HN2.out; have hsb := blk_lt HN2.out; have HSB := Lib.hid hsb; have hs12 : w1.heap.size < w2.heap.size := HL12.out; have hs02 : W.heap.size < w2.heap.size := HZ2.out) | (go_at_call 76; (with_reducible refine (two_calls (fun k => W.heap.size < k ∧ k ≠ w1.heap.size) _ a' b (.slice AA a'.f4.length kk) (.slice AA3 b.f4.length kk3) _ ?sk ?sa ?sb).mono ?_); (case sk => exact (fun k hk => (by have h1 := HZ1.out; have h2 := HZ2.out; have h12 := HL12.out; have h3 := HSB.out; simp [World.setCell] at hk; refine ⟨?_, ?_⟩ <;> omega))); (case sa => exact Kd.V_mono (put10_vN HV2b.out (fun k hk => Nat.ne_of_lt hk.2) _ _ _ _ _ _ _ _ _ _) (fun k hk => hk.1)); (case sb => exact Kd.V_mono (put10_vN HV3.out (fun k hk => hk.2) _ _ _ _ _ _ _ _ _ _) (fun k hk => hk.1)); rintro e w4 ⟨v4, rfl, hv, hbl⟩; obtain ⟨AA4, kk4, rfl⟩ := Kd.V_slice hv; have HV4 := Lib.hid hv; clear hv; have hb := Bu.of_below (g := g) hbl; have hp := PS.below (g := g) (toks := toks) (en := en) (at_ := (n3 : Int)) (Uq25 HP3.out) hbl; clear hbl; have HP4 := Lib.hid hp; have HB4 := Lib.hid (Bu.trans (g := g) (a := W.alloc nd0) (Uq23 HB3.out) hb); have BK4 := Lib.hid (hb.blk (k := W.heap.size) (o := nd0) (Uq24 BK3.out) (Nat.ne_of_gt HG.out)); have BA4 := Lib.hid (hb.blk (k := w1.heap.size) (o := ndO a' (.slice AA a'.f4.length kk)) (Uq24 BA3.out) (Nat.ne_of_gt (Nat.lt_trans HG.out HZ1.out))); clear hp hb; (try clear c0 c1 c2 c3 c4 c5 c6 c7 c8 c9 z0 z1 z2 z3 z4 z5 z6 z7 z8 z9); (try clear a0 a1 a2 a3 a4 a5 a6 a7 a8 a9 x0 x1 x2 x3 x4 x5 x6 x7 x8 x9 hsa); obtain ⟨⟨c0, c1, c2, c3, c4, c5, c6, c7, c8, c9⟩, z0, z1, z2, z3, z4, z5, z6, z7, z8, z9⟩ := z10 BK4.out; obtain ⟨⟨a0, a1, a2, a3, a4, a5, a6, a7, a8, a9⟩, x0, x1, x2, x3, x4, x5, x6, x7, x8, x9⟩ := z10 BA4.out; have hsa := blk_lt BA4.out))
        go_roundw
        case rel => exact Or.inl ⟨twoT s a' b, n3, AA4, kk4, rfl, HR.out, (Uq25 HP4.out), (Uq23 HB4.out), (Uq24 BK4.out), put10_blk BA4.out _ _ _ _ _ _ _ _ _ _, put10_vN HV4.out (fun k hk => hk.2) _ _ _ _ _ _ _ _ _ _⟩
        case measure => exact mu_more HPr.out HLS.out HLT.out _ (Uq25 HP4.out)
    · have HP2 := Lib.hid hp
      have HB2 := Lib.hid hb
      have BK2 := Lib.hid hbk
      have HE := Lib.hid he
      have HQ := Lib.hid hq
      obtain ⟨⟨c0, c1, c2, c3, c4, c5, c6, c7, c8, c9⟩, z0, z1, z2, z3, z4, z5, z6, z7, z8, z9⟩ := z10 BK2.out
      clear hp hb hbk he hq
      go_wp2
      refine bodyPost_ret (results_ct rfl _ _ W.heap.size 31 _ (0, 0) _ rfl (Uq4 BK2.out) hu rfl (by kernel_rfl)) rfl ?_
      refine ⟨?_, ?_, q, ?_, ?_, Nat.le_of_lt HQ.out⟩
      · exact (Uq25 HP2.out)
      · exact (Uq27 HB2.out)
      · rfl
      · exact (Uq7 HE.out)
set_option maxHeartbeats 8000000 in
set_option maxRecDepth 100000 in
theorem row_power_bad (toks : List Tok) (en i : Int) (n n1 : Nat) (l : List ByteArray) (hl : l.length ≤ 1000) (hlen : toks.length ≤ 1000000) (g qs : Nat) (W : World) (hp : PS g toks en (n : Int) W) (hqs : W.heap[qs]? = some (.cells (l.map Value.string).toArray 9 (0, 0))) (hgs : qs ≠ g) (p c : Int) (hf : Does 109 toks en i n (.bad p c, n1)) :
    Calls Tryz.prog 92 #[ptr g, .int .i64 i, .func (.func 109) #[ptr g] #[], .slice (some ⟨qs, 0, none⟩) l.length l.length] W fun e W' => PS g toks en (((PR.bad p c, n1) : PR × Nat).2 : Int) W' ∧ Bu g W W' ∧ Ret W.heap.size ((PR.bad p c, n1) : PR × Nat).1 W' e := by
  have hu := Tryz.underlying31
  have HG := Lib.hid hp.lt
  have HP0 := Lib.hid (hp.alloc nd0)
  have HB0 := Lib.hid (Bu.refl g (W.alloc nd0))
  have BK0 := Lib.hid (blk_new W nd0)
  have HPW := Lib.hid hp
  have HF := Lib.hid hf
  have HLEN := Lib.hid hlen
  have HL := Lib.hid hl
  have HQS := Lib.hid hqs
  have HGS := Lib.hid hgs
  clear hp hf hlen hl hqs hgs
  go_enter Tryz.func92, Tryz.ntmps92
  go_wp2_with (first | (go_at_call 109; (with_reducible refine (HF.out.bad g _ ?sp).mono ?_); (case sp => exact HP0.out); rintro e w1 ⟨hp, hb, q, rfl, he, hq⟩; have HE := Lib.hid he; have HQ := Lib.hid (lo (g := g) (o := nd0) (W := W) (Uq23 HB0.out) hq); clear he hq; have HP1 := Lib.hid hp; have HB1 := Lib.hid (Bu.trans (g := g) (a := W.alloc nd0) (Uq23 HB0.out) hb); have BK1 := Lib.hid (hb.blk (k := W.heap.size) (o := nd0) (Uq24 BK0.out) (Nat.ne_of_gt HG.out)); clear hp hb; (try clear c0 c1 c2 c3 c4 c5 c6 c7 c8 c9 z0 z1 z2 z3 z4 z5 z6 z7 z8 z9); (try clear a0 a1 a2 a3 a4 a5 a6 a7 a8 a9 x0 x1 x2 x3 x4 x5 x6 x7 x8 x9 hsa); obtain ⟨⟨c0, c1, c2, c3, c4, c5, c6, c7, c8, c9⟩, z0, z1, z2, z3, z4, z5, z6, z7, z8, z9⟩ := z10 BK1.out; have HZ1 := Lib.hid (blk_lt BK1.out)))
  go_loopw [11] (RowE g W p c n1 toks en) (fun _ _ => 0)
  case atStart => exact ⟨q, rfl, HP1.out.alloc _, HB1.out.to_alloc _, blk_alloc BK1.out _, blk_alloc HE.out _, HQ.out⟩
  case round =>
    clear HF HP0 HP1 HB1 BK1 HE HQ
    obtain ⟨q, rfl, hp, hb, hbk, he, hq⟩ := hrel
    have HP2 := Lib.hid hp
    have HB2 := Lib.hid hb
    have BK2 := Lib.hid hbk
    have HE := Lib.hid he
    have HQ := Lib.hid hq
    (try clear c0 c1 c2 c3 c4 c5 c6 c7 c8 c9 z0 z1 z2 z3 z4 z5 z6 z7 z8 z9)
    obtain ⟨⟨c0, c1, c2, c3, c4, c5, c6, c7, c8, c9⟩, z0, z1, z2, z3, z4, z5, z6, z7, z8, z9⟩ := z10 BK2.out
    clear hp hb hbk he hq
    go_wp2
    refine bodyPost_ret (results_ct rfl _ _ W.heap.size 31 _ (0, 0) _ rfl (Uq4 BK2.out) hu rfl (by kernel_rfl)) rfl ?_
    refine ⟨?_, ?_, q, ?_, ?_, Nat.le_of_lt HQ.out⟩
    · exact (Uq25 HP2.out)
    · exact (Uq27 HB2.out)
    · rfl
    · exact (Uq7 HE.out)
end Go.Proofs.YtnomfbmebafolaaGreatDoor.P

namespace Go.Proofs.YtnomfbmebafolaaGreatDoor.P
open Go.RowKit Go.Proofs.YtnomfbmebafolaaGreatDoorW.PrintWords Go.Proofs.YtnomfbmebafolaaGreatDoorW.PrintLast Go.Proofs.YtnomfbmebafolaaGreatDoorW.PrintMore
open M (I64)
set_option linter.unusedVariables false
set_option linter.unusedSimpArgs false
theorem blk_at (W : World) (o : Obj) (n : Nat) (h : n = W.heap.size) : (W.alloc o).heap[n]? = some o := by subst h; exact blk_new W o
set_option maxHeartbeats 4000000 in
set_option maxRecDepth 100000 in
theorem sum_okok (toks : List Tok) (en i : Int) (n : Nat) (hlen : toks.length ≤ 1000000) (n1 : Nat) (a : TN) (hf : Does 93 toks en i n (.ok a, n1)) (t : TN) (n2 : Nat) (hr : RowR 93 toks en i [⟨#[43]⟩, ⟨#[45]⟩, ⟨#[38]⟩] a n1 (.ok t, n2)) : Does 74 toks en i n (.ok t, n2) := by
  intro g W hp
  have hu := Tryz.underlying31
  have hgW := hp.lt
  have HG := Lib.hid hp.lt
  have HPW := Lib.hid hp
  have HLEN := Lib.hid hlen
  have HF := Lib.hid hf
  have HR := Lib.hid hr
  clear hr
  clear hp hlen hf
  go_enter Tryz.func74, Tryz.ntmps74
  go_wp2_with (first | (go_at_call 92; (refine (row_product_ok toks en i n n1 [⟨#[43]⟩, ⟨#[45]⟩, ⟨#[38]⟩] (by decide) HLEN.out g _ _ ?sp ?sq ?sg a _ HF.out HR.out).mono ?_); (case sp => exact PS.alloc (PS.alloc HPW.out _) _); (case sq => exact blk_at _ _ _ (by simp)); (case sg => (simp; omega)); rintro e w1 ⟨hp, hb, hret⟩; have hb_ := Bu.trans (g := g) (a := W.alloc nd0) (Bu.alloc g (W.alloc nd0) _) hb; have BK1 := Lib.hid (hb_.blk (k := W.heap.size) (o := nd0) (blk_new W nd0) (Nat.ne_of_gt HG.out)); have HP1 := Lib.hid hp; have HB1 := Lib.hid hb_; obtain ⟨v9, rfl, hv⟩ := hret; obtain ⟨A9, k9, rfl⟩ := Kd.V_slice hv; have HV := Lib.hid hv; clear hp hb hb_ hv; obtain ⟨⟨c0, c1, c2, c3, c4, c5, c6, c7, c8, c9⟩, z0, z1, z2, z3, z4, z5, z6, z7, z8, z9⟩ := z10 BK1.out))
  refine bodyPost_ret (results_ct rfl _ _ W.heap.size 31 _ (0, 0) _ rfl (by with_reducible repeat (first | exact put10_blk BK1.out _ _ _ _ _ _ _ _ _ _ | refine blk_alloc ?_ _)) hu rfl (by kernel_rfl)) rfl ?_
  refine ⟨?_, ?_, .slice A9 t.f4.length k9, ?_, ?_⟩
  · exact put10_ps HP1.out HG.out _ _ _ _ _ _ _ _ _ _
  · exact put10_bu ((Bu.alloc g W nd0).trans HB1.out) (Nat.le_refl _) _ _ _ _ _ _ _ _ _ _
  · rfl
  · exact Kd.V_mono (put10_vN (ok := fun k => W.heap.size < k) (Kd.V_mono HV.out (fun k hk => (by simp at hk; omega))) (fun k hk => Nat.ne_of_gt hk) _ _ _ _ _ _ _ _ _ _) (fun k hk => Nat.le_of_lt hk)
set_option maxHeartbeats 4000000 in
set_option maxRecDepth 100000 in
theorem sum_okbad (toks : List Tok) (en i : Int) (n : Nat) (hlen : toks.length ≤ 1000000) (n1 : Nat) (a : TN) (hf : Does 93 toks en i n (.ok a, n1)) (p c : Int) (n2 : Nat) (hr : RowR 93 toks en i [⟨#[43]⟩, ⟨#[45]⟩, ⟨#[38]⟩] a n1 (.bad p c, n2)) : Does 74 toks en i n (.bad p c, n2) := by
  intro g W hp
  have hu := Tryz.underlying31
  have hgW := hp.lt
  have HG := Lib.hid hp.lt
  have HPW := Lib.hid hp
  have HLEN := Lib.hid hlen
  have HF := Lib.hid hf
  have HR := Lib.hid hr
  clear hr
  clear hp hlen hf
  go_enter Tryz.func74, Tryz.ntmps74
  go_wp2_with (first | (go_at_call 92; (refine (row_product_ok toks en i n n1 [⟨#[43]⟩, ⟨#[45]⟩, ⟨#[38]⟩] (by decide) HLEN.out g _ _ ?sp ?sq ?sg a _ HF.out HR.out).mono ?_); (case sp => exact PS.alloc (PS.alloc HPW.out _) _); (case sq => exact blk_at _ _ _ (by simp)); (case sg => (simp; omega)); rintro e w1 ⟨hp, hb, hret⟩; have hb_ := Bu.trans (g := g) (a := W.alloc nd0) (Bu.alloc g (W.alloc nd0) _) hb; have BK1 := Lib.hid (hb_.blk (k := W.heap.size) (o := nd0) (blk_new W nd0) (Nat.ne_of_gt HG.out)); have HP1 := Lib.hid hp; have HB1 := Lib.hid hb_; obtain ⟨q, rfl, he, hq⟩ := hret; have HE := Lib.hid he; have HQ := Lib.hid (show W.heap.size < q from (by simp at hq; omega)); clear hp hb hb_ he hq; obtain ⟨⟨c0, c1, c2, c3, c4, c5, c6, c7, c8, c9⟩, z0, z1, z2, z3, z4, z5, z6, z7, z8, z9⟩ := z10 BK1.out))
  refine bodyPost_ret (results_ct rfl _ _ W.heap.size 31 _ (0, 0) _ rfl (by with_reducible repeat (first | exact put10_blk BK1.out _ _ _ _ _ _ _ _ _ _ | refine blk_alloc ?_ _)) hu rfl (by kernel_rfl)) rfl ?_
  refine ⟨?_, ?_, q, ?_, ?_, Nat.le_of_lt HQ.out⟩
  · exact put10_ps HP1.out HG.out _ _ _ _ _ _ _ _ _ _
  · exact put10_bu ((Bu.alloc g W nd0).trans HB1.out) (Nat.le_refl _) _ _ _ _ _ _ _ _ _ _
  · rfl
  · exact (put10_old (Nat.ne_of_gt HQ.out) _ _ _ _ _ _ _ _ _ _).trans HE.out
set_option maxHeartbeats 4000000 in
set_option maxRecDepth 100000 in
theorem sum_bad (toks : List Tok) (en i : Int) (n : Nat) (hlen : toks.length ≤ 1000000) (n1 : Nat) (p c : Int) (hf : Does 93 toks en i n (.bad p c, n1)) : Does 74 toks en i n (.bad p c, n1) := by
  intro g W hp
  have hu := Tryz.underlying31
  have hgW := hp.lt
  have HG := Lib.hid hp.lt
  have HPW := Lib.hid hp
  have HLEN := Lib.hid hlen
  have HF := Lib.hid hf
  clear hp hlen hf
  go_enter Tryz.func74, Tryz.ntmps74
  go_wp2_with (first | (go_at_call 92; (refine (row_product_bad toks en i n n1 [⟨#[43]⟩, ⟨#[45]⟩, ⟨#[38]⟩] (by decide) HLEN.out g _ _ ?sp ?sq ?sg p c HF.out).mono ?_); (case sp => exact PS.alloc (PS.alloc HPW.out _) _); (case sq => exact blk_at _ _ _ (by simp)); (case sg => (simp; omega)); rintro e w1 ⟨hp, hb, hret⟩; have hb_ := Bu.trans (g := g) (a := W.alloc nd0) (Bu.alloc g (W.alloc nd0) _) hb; have BK1 := Lib.hid (hb_.blk (k := W.heap.size) (o := nd0) (blk_new W nd0) (Nat.ne_of_gt HG.out)); have HP1 := Lib.hid hp; have HB1 := Lib.hid hb_; obtain ⟨q, rfl, he, hq⟩ := hret; have HE := Lib.hid he; have HQ := Lib.hid (show W.heap.size < q from (by simp at hq; omega)); clear hp hb hb_ he hq; obtain ⟨⟨c0, c1, c2, c3, c4, c5, c6, c7, c8, c9⟩, z0, z1, z2, z3, z4, z5, z6, z7, z8, z9⟩ := z10 BK1.out))
  refine bodyPost_ret (results_ct rfl _ _ W.heap.size 31 _ (0, 0) _ rfl (by with_reducible repeat (first | exact put10_blk BK1.out _ _ _ _ _ _ _ _ _ _ | refine blk_alloc ?_ _)) hu rfl (by kernel_rfl)) rfl ?_
  refine ⟨?_, ?_, q, ?_, ?_, Nat.le_of_lt HQ.out⟩
  · exact put10_ps HP1.out HG.out _ _ _ _ _ _ _ _ _ _
  · exact put10_bu ((Bu.alloc g W nd0).trans HB1.out) (Nat.le_refl _) _ _ _ _ _ _ _ _ _ _
  · rfl
  · exact (put10_old (Nat.ne_of_gt HQ.out) _ _ _ _ _ _ _ _ _ _).trans HE.out
theorem sum_ok (toks : List Tok) (en i : Int) (n : Nat) (hlen : toks.length ≤ 1000000) (n1 : Nat) (a : TN) (hf : Does 93 toks en i n (.ok a, n1)) (r : PR × Nat) (hr : RowR 93 toks en i [⟨#[43]⟩, ⟨#[45]⟩, ⟨#[38]⟩] a n1 r) : Does 74 toks en i n r := by
  obtain ⟨ra, rn⟩ := r
  cases ra with
  | ok t => exact sum_okok toks en i n hlen n1 a hf t rn hr
  | bad p c => exact sum_okbad toks en i n hlen n1 a hf p c rn hr
set_option maxHeartbeats 4000000 in
set_option maxRecDepth 100000 in
theorem product_okok (toks : List Tok) (en i : Int) (n : Nat) (hlen : toks.length ≤ 1000000) (n1 : Nat) (a : TN) (hf : Does 109 toks en i n (.ok a, n1)) (t : TN) (n2 : Nat) (hr : RowR 109 toks en i [⟨#[42]⟩, ⟨#[47]⟩, ⟨#[37]⟩] a n1 (.ok t, n2)) : Does 93 toks en i n (.ok t, n2) := by
  intro g W hp
  have hu := Tryz.underlying31
  have hgW := hp.lt
  have HG := Lib.hid hp.lt
  have HPW := Lib.hid hp
  have HLEN := Lib.hid hlen
  have HF := Lib.hid hf
  have HR := Lib.hid hr
  clear hr
  clear hp hlen hf
  go_enter Tryz.func93, Tryz.ntmps93
  go_wp2_with (first | (go_at_call 92; (refine (row_power_ok toks en i n n1 [⟨#[42]⟩, ⟨#[47]⟩, ⟨#[37]⟩] (by decide) HLEN.out g _ _ ?sp ?sq ?sg a _ HF.out HR.out).mono ?_); (case sp => exact PS.alloc (PS.alloc HPW.out _) _); (case sq => exact blk_at _ _ _ (by simp)); (case sg => (simp; omega)); rintro e w1 ⟨hp, hb, hret⟩; have hb_ := Bu.trans (g := g) (a := W.alloc nd0) (Bu.alloc g (W.alloc nd0) _) hb; have BK1 := Lib.hid (hb_.blk (k := W.heap.size) (o := nd0) (blk_new W nd0) (Nat.ne_of_gt HG.out)); have HP1 := Lib.hid hp; have HB1 := Lib.hid hb_; obtain ⟨v9, rfl, hv⟩ := hret; obtain ⟨A9, k9, rfl⟩ := Kd.V_slice hv; have HV := Lib.hid hv; clear hp hb hb_ hv; obtain ⟨⟨c0, c1, c2, c3, c4, c5, c6, c7, c8, c9⟩, z0, z1, z2, z3, z4, z5, z6, z7, z8, z9⟩ := z10 BK1.out))
  refine bodyPost_ret (results_ct rfl _ _ W.heap.size 31 _ (0, 0) _ rfl (by with_reducible repeat (first | exact put10_blk BK1.out _ _ _ _ _ _ _ _ _ _ | refine blk_alloc ?_ _)) hu rfl (by kernel_rfl)) rfl ?_
  refine ⟨?_, ?_, .slice A9 t.f4.length k9, ?_, ?_⟩
  · exact put10_ps HP1.out HG.out _ _ _ _ _ _ _ _ _ _
  · exact put10_bu ((Bu.alloc g W nd0).trans HB1.out) (Nat.le_refl _) _ _ _ _ _ _ _ _ _ _
  · rfl
  · exact Kd.V_mono (put10_vN (ok := fun k => W.heap.size < k) (Kd.V_mono HV.out (fun k hk => (by simp at hk; omega))) (fun k hk => Nat.ne_of_gt hk) _ _ _ _ _ _ _ _ _ _) (fun k hk => Nat.le_of_lt hk)
set_option maxHeartbeats 4000000 in
set_option maxRecDepth 100000 in
theorem product_okbad (toks : List Tok) (en i : Int) (n : Nat) (hlen : toks.length ≤ 1000000) (n1 : Nat) (a : TN) (hf : Does 109 toks en i n (.ok a, n1)) (p c : Int) (n2 : Nat) (hr : RowR 109 toks en i [⟨#[42]⟩, ⟨#[47]⟩, ⟨#[37]⟩] a n1 (.bad p c, n2)) : Does 93 toks en i n (.bad p c, n2) := by
  intro g W hp
  have hu := Tryz.underlying31
  have hgW := hp.lt
  have HG := Lib.hid hp.lt
  have HPW := Lib.hid hp
  have HLEN := Lib.hid hlen
  have HF := Lib.hid hf
  have HR := Lib.hid hr
  clear hr
  clear hp hlen hf
  go_enter Tryz.func93, Tryz.ntmps93
  go_wp2_with (first | (go_at_call 92; (refine (row_power_ok toks en i n n1 [⟨#[42]⟩, ⟨#[47]⟩, ⟨#[37]⟩] (by decide) HLEN.out g _ _ ?sp ?sq ?sg a _ HF.out HR.out).mono ?_); (case sp => exact PS.alloc (PS.alloc HPW.out _) _); (case sq => exact blk_at _ _ _ (by simp)); (case sg => (simp; omega)); rintro e w1 ⟨hp, hb, hret⟩; have hb_ := Bu.trans (g := g) (a := W.alloc nd0) (Bu.alloc g (W.alloc nd0) _) hb; have BK1 := Lib.hid (hb_.blk (k := W.heap.size) (o := nd0) (blk_new W nd0) (Nat.ne_of_gt HG.out)); have HP1 := Lib.hid hp; have HB1 := Lib.hid hb_; obtain ⟨q, rfl, he, hq⟩ := hret; have HE := Lib.hid he; have HQ := Lib.hid (show W.heap.size < q from (by simp at hq; omega)); clear hp hb hb_ he hq; obtain ⟨⟨c0, c1, c2, c3, c4, c5, c6, c7, c8, c9⟩, z0, z1, z2, z3, z4, z5, z6, z7, z8, z9⟩ := z10 BK1.out))
  refine bodyPost_ret (results_ct rfl _ _ W.heap.size 31 _ (0, 0) _ rfl (by with_reducible repeat (first | exact put10_blk BK1.out _ _ _ _ _ _ _ _ _ _ | refine blk_alloc ?_ _)) hu rfl (by kernel_rfl)) rfl ?_
  refine ⟨?_, ?_, q, ?_, ?_, Nat.le_of_lt HQ.out⟩
  · exact put10_ps HP1.out HG.out _ _ _ _ _ _ _ _ _ _
  · exact put10_bu ((Bu.alloc g W nd0).trans HB1.out) (Nat.le_refl _) _ _ _ _ _ _ _ _ _ _
  · rfl
  · exact (put10_old (Nat.ne_of_gt HQ.out) _ _ _ _ _ _ _ _ _ _).trans HE.out
set_option maxHeartbeats 4000000 in
set_option maxRecDepth 100000 in
theorem product_bad (toks : List Tok) (en i : Int) (n : Nat) (hlen : toks.length ≤ 1000000) (n1 : Nat) (p c : Int) (hf : Does 109 toks en i n (.bad p c, n1)) : Does 93 toks en i n (.bad p c, n1) := by
  intro g W hp
  have hu := Tryz.underlying31
  have hgW := hp.lt
  have HG := Lib.hid hp.lt
  have HPW := Lib.hid hp
  have HLEN := Lib.hid hlen
  have HF := Lib.hid hf
  clear hp hlen hf
  go_enter Tryz.func93, Tryz.ntmps93
  go_wp2_with (first | (go_at_call 92; (refine (row_power_bad toks en i n n1 [⟨#[42]⟩, ⟨#[47]⟩, ⟨#[37]⟩] (by decide) HLEN.out g _ _ ?sp ?sq ?sg p c HF.out).mono ?_); (case sp => exact PS.alloc (PS.alloc HPW.out _) _); (case sq => exact blk_at _ _ _ (by simp)); (case sg => (simp; omega)); rintro e w1 ⟨hp, hb, hret⟩; have hb_ := Bu.trans (g := g) (a := W.alloc nd0) (Bu.alloc g (W.alloc nd0) _) hb; have BK1 := Lib.hid (hb_.blk (k := W.heap.size) (o := nd0) (blk_new W nd0) (Nat.ne_of_gt HG.out)); have HP1 := Lib.hid hp; have HB1 := Lib.hid hb_; obtain ⟨q, rfl, he, hq⟩ := hret; have HE := Lib.hid he; have HQ := Lib.hid (show W.heap.size < q from (by simp at hq; omega)); clear hp hb hb_ he hq; obtain ⟨⟨c0, c1, c2, c3, c4, c5, c6, c7, c8, c9⟩, z0, z1, z2, z3, z4, z5, z6, z7, z8, z9⟩ := z10 BK1.out))
  refine bodyPost_ret (results_ct rfl _ _ W.heap.size 31 _ (0, 0) _ rfl (by with_reducible repeat (first | exact put10_blk BK1.out _ _ _ _ _ _ _ _ _ _ | refine blk_alloc ?_ _)) hu rfl (by kernel_rfl)) rfl ?_
  refine ⟨?_, ?_, q, ?_, ?_, Nat.le_of_lt HQ.out⟩
  · exact put10_ps HP1.out HG.out _ _ _ _ _ _ _ _ _ _
  · exact put10_bu ((Bu.alloc g W nd0).trans HB1.out) (Nat.le_refl _) _ _ _ _ _ _ _ _ _ _
  · rfl
  · exact (put10_old (Nat.ne_of_gt HQ.out) _ _ _ _ _ _ _ _ _ _).trans HE.out
theorem product_ok (toks : List Tok) (en i : Int) (n : Nat) (hlen : toks.length ≤ 1000000) (n1 : Nat) (a : TN) (hf : Does 109 toks en i n (.ok a, n1)) (r : PR × Nat) (hr : RowR 109 toks en i [⟨#[42]⟩, ⟨#[47]⟩, ⟨#[37]⟩] a n1 r) : Does 93 toks en i n r := by
  obtain ⟨ra, rn⟩ := r
  cases ra with
  | ok t => exact product_okok toks en i n hlen n1 a hf t rn hr
  | bad p c => exact product_okbad toks en i n hlen n1 a hf p c rn hr
end Go.Proofs.YtnomfbmebafolaaGreatDoor.P
