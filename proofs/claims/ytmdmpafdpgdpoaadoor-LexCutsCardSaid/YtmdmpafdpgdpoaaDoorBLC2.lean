/- Contracts of the functions that the law reaches, each with the plain function that it comes to, and plain facts about these. -/
import Derived.Lib.ParseIntBCases
import Derived.Test.YtmdmpafdpgdpoaaDoorBLC1
namespace Go.Proofs.YtmdmpafdpgdpoaaDoor.P
open Go.RowKit Go.Proofs.YtmdmpafdpgdpoaaDoorW.PrintWords Go.Proofs.YtmdmpafdpgdpoaaDoorW.PrintLast Go.Proofs.YtmdmpafdpgdpoaaDoorW.PrintMore
attribute [local go_sem] max2_int min2_int max_two min_two max_three min_three max_four min_four   -- for this text's walks alone
set_option linter.unusedVariables false
set_option linter.unusedSimpArgs false
mutual
def pannierref04_next.l0 : Nat → ByteArray → Int → Int → Option (Int × Int × ByteArray × Int × Int)
  | 0, _, _, _ => none
  | k + 1, x0, x1, x7 => if x7 < (x0.size : Int) then (if 0 ≤ x7 then ((pannierref04_letter.f (bt x0 x7)).bind fun t143 => (if t143 = true then (pannierref04_next.l0 k x0 x1 (wrap64 (x7 + 1))) else ((pannierref04_digit.f (bt x0 x7)).bind fun t144 => (if t144 = true then (pannierref04_next.l0 k x0 x1 (wrap64 (x7 + 1))) else (if 0 ≤ x1 then (if x1 ≤ x7 then (if x7 ≤ (x0.size : Int) then ((pannierref04_Upper.f (x0.extract (x1 : Int).toNat (x7 : Int).toNat)).bind fun t145 => (some (3, 0, t145, x1, wrap64 (x7 - x1)))) else (none)) else (none)) else (none)))))) else (none)) else (if 0 ≤ x1 then (if x1 ≤ x7 then (if x7 ≤ (x0.size : Int) then ((pannierref04_Upper.f (x0.extract (x1 : Int).toNat (x7 : Int).toNat)).bind fun t146 => (some (3, 0, t146, x1, wrap64 (x7 - x1)))) else (none)) else (none)) else (none))
def pannierref04_next.l1 : Nat → ByteArray → Int → Int → Option (Int × Int × ByteArray × Int × Int)
  | 0, _, _, _ => none
  | k + 1, x0, x1, x8 => if x8 ≥ 1 then (if (wrap64 (x1 + x8)) > (x0.size : Int) then (pannierref04_next.l1 k x0 x1 (wrap64 (x8 - 1))) else ((pannierref04_signs.f).bind fun t152 => (pannierref04_next.l2 k x0 x1 x8 t152 0))) else (some (0, 0, (⟨#[]⟩ : ByteArray), 0, 0))
def pannierref04_next.l2 : Nat → ByteArray → Int → Int → List ByteArray → Int → Option (Int × Int × ByteArray × Int × Int)
  | 0, _, _, _, _, _ => none
  | k + 1, x0, x1, x8, x9, x10 => if x10 < (x9.length : Int) then (if 0 ≤ x10 then (if 0 ≤ x1 then (if x1 ≤ (wrap64 (x1 + x8)) then (if (wrap64 (x1 + x8)) ≤ (x0.size : Int) then (if (rdOf ByteArray.empty x9 x10).toList = (x0.extract (x1 : Int).toNat ((wrap64 (x1 + x8)) : Int).toNat).toList then (some (4, 0, rdOf ByteArray.empty x9 x10, x1, x8)) else (pannierref04_next.l2 k x0 x1 x8 x9 (wrap64 (x10 + 1)))) else (none)) else (none)) else (none)) else (none)) else (pannierref04_next.l1 k x0 x1 (wrap64 (x8 - 1)))
end
def pannierref04_next.f (k : Nat) (a0 : ByteArray) (a1 : Int) : Option (Int × Int × ByteArray × Int × Int) := if 0 ≤ a1 then (if a1 < (a0.size : Int) then ((pannierref04_digit.f (bt a0 a1)).bind fun t136 => (if t136 = true then ((pannierref04_number.f k a0 a1).bind fun bt137 => (some (bt137.1, bt137.2.1, bt137.2.2.1, bt137.2.2.2.1, bt137.2.2.2.2))) else ((pannierref04_letter.f (bt a0 a1)).bind fun t142 => (if t142 = true then (pannierref04_next.l0 k a0 a1 a1) else (if (bt a0 a1) = 34 then ((pannierref04_text.f k a0 a1).bind fun bt147 => (some (bt147.1, bt147.2.1, bt147.2.2.1, bt147.2.2.2.1, bt147.2.2.2.2))) else (pannierref04_next.l1 k a0 a1 2)))))) else (none)) else (none)
set_option maxHeartbeats 8000000 in
set_option maxRecDepth 100000 in
theorem pannierref04_next.calls (k : Nat) (a0 : ByteArray) (a1 : Int) (r1 : Int) (r2 : Int) (r3 : ByteArray) (r4 : Int) (r5 : Int) (w : World) (h : pannierref04_next.f k a0 a1 = some (r1, r2, r3, r4, r5)) :
    Calls Tryd.prog 50 #[.string a0, .int .i64 a1] w fun e w' => e = .returned (.tuple #[.agg #[.int .i64 r1, .int .i64 r2, .string r3, .int .i64 r4], .int .i64 r5]) ∧ Below w.heap.size w w' := by
  have hu50 := Tryd.underlying50
  have HB := Aside0.mk (Below.refl w.heap.size w)
  have H : (if 0 ≤ a1 then (if a1 < (a0.size : Int) then ((pannierref04_digit.f (bt a0 a1)).bind fun t136 => (if t136 = true then ((pannierref04_number.f k a0 a1).bind fun bt137 => (some (bt137.1, bt137.2.1, bt137.2.2.1, bt137.2.2.2.1, bt137.2.2.2.2))) else ((pannierref04_letter.f (bt a0 a1)).bind fun t142 => (if t142 = true then (pannierref04_next.l0 k a0 a1 a1) else (if (bt a0 a1) = 34 then ((pannierref04_text.f k a0 a1).bind fun bt147 => (some (bt147.1, bt147.2.1, bt147.2.2.1, bt147.2.2.2.1, bt147.2.2.2.2))) else (pannierref04_next.l1 k a0 a1 2)))))) else (none)) else (none)) = some (r1, r2, r3, r4, r5) := h
  clear h
  by_cases c3 : 0 ≤ a1
  · rw [if_pos c3] at H
    have c3b0 : decide (0 ≤ a1) = true := decide_eq_true c3
    clear c3
    by_cases c4 : a1 < (a0.size : Int)
    · rw [if_pos c4] at H
      have c4b0 : decide (a1 < (a0.size : Int)) = true := decide_eq_true c4
      clear c4
      replace H := Option.bind_eq_some_iff.mp H
      obtain ⟨t136, A60, H⟩ := H
      replace H : (if t136 = true then ((pannierref04_number.f k a0 a1).bind fun bt137 => (some (bt137.1, bt137.2.1, bt137.2.2.1, bt137.2.2.2.1, bt137.2.2.2.2))) else ((pannierref04_letter.f (bt a0 a1)).bind fun t142 => (if t142 = true then (pannierref04_next.l0 k a0 a1 a1) else (if (bt a0 a1) = 34 then ((pannierref04_text.f k a0 a1).bind fun bt147 => (some (bt147.1, bt147.2.1, bt147.2.2.1, bt147.2.2.2.1, bt147.2.2.2.2))) else (pannierref04_next.l1 k a0 a1 2))))) = some (r1, r2, r3, r4, r5) := H
      have A6 := Aside0.mk A60
      clear A60
      by_cases c7 : t136 = true
      · subst c7
        have H1 : ((pannierref04_number.f k a0 a1).bind fun bt137 => (some (bt137.1, bt137.2.1, bt137.2.2.1, bt137.2.2.2.1, bt137.2.2.2.2))) = some (r1, r2, r3, r4, r5) := by rw [if_pos rfl] at H; exact H
        clear H
        have H := H1
        clear H1
        replace H := Option.bind_eq_some_iff.mp H
        obtain ⟨⟨t137, t138, t139, t140, t141⟩, A80, H⟩ := H
        replace H : (some (t137, t138, t139, t140, t141)) = some (r1, r2, r3, r4, r5) := H
        have A8 := Aside0.mk A80
        clear A80
        simp only [Option.some.injEq, Prod.mk.injEq] at H
        obtain ⟨rfl, rfl, rfl, rfl, rfl⟩ := H
        go_enter Tryd.func50, Tryd.ntmps50
        go_wp2_with (first | ((with_reducible refine gate_dst (N := 4) rfl ?_); refine box_event ?hg (N := 4) ?hd (cs := #[.int .i64 0, .int .i64 0, .string (⟨#[]⟩ : ByteArray), .int .i64 0]) (t := 50) ?hr ?_; (case hd => rfl); (case hg => rfl); (case hr => first | (go_simp; done) | (go_simp; rfl)); intro gb135 hg w9 hbox hb; have n0_ := Aside0.mk (below_step (by repeat first | with_reducible exact HB.out | apply zS | exact HB.out) hb); have n1_ := Aside0.mk (hbox); have n2_ := Aside0.mk ((by rw [hg]; exact (below_size (by repeat first | with_reducible exact HB.out | apply zS | exact HB.out)) : w.heap.size ≤ gb135)); have n3_ := n2_; clear HB; have HB := n0_; have BK135 := n1_; have GW135 := n2_; have GE135 := n3_; clear n0_ n1_ n2_ n3_; clear hb hbox hg; have p5 : 0 ≤ (a1 : Int) := of_decide_eq_true (by first | (with_reducible assumption) | assumption); have q5 : a1 < (a0.size : Int) := of_decide_eq_true (by first | (with_reducible assumption) | assumption); have hx5 := bt_at a0 a1; replace p5 := eq_true p5; replace q5 := eq_true q5) | (go_at_call 73; (with_reducible refine (pannierref04_digit.calls (bt a0 a1) true _ A6.out).mono ?_); rintro e w' ⟨rfl, ⟨nd, rfl⟩⟩; (try first | exact ⟨rfl, _, World.drewN_drewN _ _ _⟩ | exact ⟨rfl, _, Eq.trans (World.drewN_drewN _ _ _) (congrArg (World.drewN _) (Nat.add_assoc _ _ _))⟩)) | (go_at_call 74; (with_reducible refine (pannierref04_number.calls k a0 a1 t137 t138 t139 t140 t141 _ A8.out).mono ?_); rintro e w10 ⟨rfl, hb⟩; have n0_ := Aside0.mk (blk_below (g := gb135) (o := .cells #[.int .i64 0, .int .i64 0, .string (⟨#[]⟩ : ByteArray), .int .i64 0] 50 (0, 0)) (zB BK135.out) hb); have n1_ := Aside0.mk (below_step (by repeat first | with_reducible exact HB.out | apply zS | refine below_set ?_ GE135.out | exact HB.out) hb); clear BK135; clear HB; have BK135 := n0_; have HB := n1_; clear n0_ n1_; (try clear hb); (try clear hb2); (try clear hk); (try clear hi); obtain ⟨hcz11_0, hcz11_1, hcz11_2, hcz11_3, hfz11_0, hfz11_1, hfz11_2, hfz11_3⟩ := zC4 BK135.out))
        repeat (go_quiet (first | ((with_reducible refine gate_dst (N := 4) rfl ?_); refine box_event ?hg (N := 4) ?hd (cs := #[.int .i64 0, .int .i64 0, .string (⟨#[]⟩ : ByteArray), .int .i64 0]) (t := 50) ?hr ?_; (case hd => rfl); (case hg => rfl); (case hr => first | (go_simp; done) | (go_simp; rfl)); intro gb135 hg w9 hbox hb; have n0_ := Aside0.mk (below_step (by repeat first | with_reducible exact HB.out | apply zS | exact HB.out) hb); have n1_ := Aside0.mk (hbox); have n2_ := Aside0.mk ((by rw [hg]; exact (below_size (by repeat first | with_reducible exact HB.out | apply zS | exact HB.out)) : w.heap.size ≤ gb135)); have n3_ := n2_; clear HB; have HB := n0_; have BK135 := n1_; have GW135 := n2_; have GE135 := n3_; clear n0_ n1_ n2_ n3_; clear hb hbox hg; have p5 : 0 ≤ (a1 : Int) := of_decide_eq_true (by first | (with_reducible assumption) | assumption); have q5 : a1 < (a0.size : Int) := of_decide_eq_true (by first | (with_reducible assumption) | assumption); have hx5 := bt_at a0 a1; replace p5 := eq_true p5; replace q5 := eq_true q5) | (go_at_call 73; (with_reducible refine (pannierref04_digit.calls (bt a0 a1) true _ A6.out).mono ?_); rintro e w' ⟨rfl, ⟨nd, rfl⟩⟩; (try first | exact ⟨rfl, _, World.drewN_drewN _ _ _⟩ | exact ⟨rfl, _, Eq.trans (World.drewN_drewN _ _ _) (congrArg (World.drewN _) (Nat.add_assoc _ _ _))⟩)) | (go_at_call 74; (with_reducible refine (pannierref04_number.calls k a0 a1 t137 t138 t139 t140 t141 _ A8.out).mono ?_); rintro e w10 ⟨rfl, hb⟩; have n0_ := Aside0.mk (blk_below (g := gb135) (o := .cells #[.int .i64 0, .int .i64 0, .string (⟨#[]⟩ : ByteArray), .int .i64 0] 50 (0, 0)) (zB BK135.out) hb); have n1_ := Aside0.mk (below_step (by repeat first | with_reducible exact HB.out | apply zS | refine below_set ?_ GE135.out | exact HB.out) hb); clear BK135; clear HB; have BK135 := n0_; have HB := n1_; clear n0_ n1_; (try clear hb); (try clear hb2); (try clear hk); (try clear hi); obtain ⟨hcz11_0, hcz11_1, hcz11_2, hcz11_3, hfz11_0, hfz11_1, hfz11_2, hfz11_3⟩ := zC4 BK135.out)); try go_wp2_with (first | ((with_reducible refine gate_dst (N := 4) rfl ?_); refine box_event ?hg (N := 4) ?hd (cs := #[.int .i64 0, .int .i64 0, .string (⟨#[]⟩ : ByteArray), .int .i64 0]) (t := 50) ?hr ?_; (case hd => rfl); (case hg => rfl); (case hr => first | (go_simp; done) | (go_simp; rfl)); intro gb135 hg w9 hbox hb; have n0_ := Aside0.mk (below_step (by repeat first | with_reducible exact HB.out | apply zS | exact HB.out) hb); have n1_ := Aside0.mk (hbox); have n2_ := Aside0.mk ((by rw [hg]; exact (below_size (by repeat first | with_reducible exact HB.out | apply zS | exact HB.out)) : w.heap.size ≤ gb135)); have n3_ := n2_; clear HB; have HB := n0_; have BK135 := n1_; have GW135 := n2_; have GE135 := n3_; clear n0_ n1_ n2_ n3_; clear hb hbox hg; have p5 : 0 ≤ (a1 : Int) := of_decide_eq_true (by first | (with_reducible assumption) | assumption); have q5 : a1 < (a0.size : Int) := of_decide_eq_true (by first | (with_reducible assumption) | assumption); have hx5 := bt_at a0 a1; replace p5 := eq_true p5; replace q5 := eq_true q5) | (go_at_call 73; (with_reducible refine (pannierref04_digit.calls (bt a0 a1) true _ A6.out).mono ?_); rintro e w' ⟨rfl, ⟨nd, rfl⟩⟩; (try first | exact ⟨rfl, _, World.drewN_drewN _ _ _⟩ | exact ⟨rfl, _, Eq.trans (World.drewN_drewN _ _ _) (congrArg (World.drewN _) (Nat.add_assoc _ _ _))⟩)) | (go_at_call 74; (with_reducible refine (pannierref04_number.calls k a0 a1 t137 t138 t139 t140 t141 _ A8.out).mono ?_); rintro e w10 ⟨rfl, hb⟩; have n0_ := Aside0.mk (blk_below (g := gb135) (o := .cells #[.int .i64 0, .int .i64 0, .string (⟨#[]⟩ : ByteArray), .int .i64 0] 50 (0, 0)) (zB BK135.out) hb); have n1_ := Aside0.mk (below_step (by repeat first | with_reducible exact HB.out | apply zS | refine below_set ?_ GE135.out | exact HB.out) hb); clear BK135; clear HB; have BK135 := n0_; have HB := n1_; clear n0_ n1_; (try clear hb); (try clear hb2); (try clear hk); (try clear hi); obtain ⟨hcz11_0, hcz11_1, hcz11_2, hcz11_3, hfz11_0, hfz11_1, hfz11_2, hfz11_3⟩ := zC4 BK135.out)))
        refine bodyPost_ret (results_ct rfl _ _ gb135 50 #[.int .i64 t137, .int .i64 t138, .string t139, .int .i64 t140] (0, 0) _ rfl (by (with_reducible repeat (first | refine blk_drewN ?_ _ | refine blk_drew ?_ | refine blk_alloc ?_ _)); refine blk_put (cs := #[.int .i64 t137, .int .i64 t138, .string t139, .int .i64 0]) ?_ 3 _ rfl; (with_reducible repeat (first | refine blk_drewN ?_ _ | refine blk_drew ?_ | refine blk_alloc ?_ _)); refine blk_put (cs := #[.int .i64 t137, .int .i64 t138, .string (⟨#[]⟩ : ByteArray), .int .i64 0]) ?_ 2 _ rfl; (with_reducible repeat (first | refine blk_drewN ?_ _ | refine blk_drew ?_ | refine blk_alloc ?_ _)); refine blk_put (cs := #[.int .i64 t137, .int .i64 0, .string (⟨#[]⟩ : ByteArray), .int .i64 0]) ?_ 1 _ rfl; (with_reducible repeat (first | refine blk_drewN ?_ _ | refine blk_drew ?_ | refine blk_alloc ?_ _)); refine blk_put (cs := #[.int .i64 0, .int .i64 0, .string (⟨#[]⟩ : ByteArray), .int .i64 0]) ?_ 0 _ rfl; (with_reducible repeat (first | refine blk_drewN ?_ _ | refine blk_drew ?_ | refine blk_alloc ?_ _)); exact BK135.out) Tryd.underlying50 rfl (by kernel_rfl)) rfl ?_
        exact ⟨by first | rfl | (simp [errW_none, errW_some] <;> rfl) | (simp [*, errW_none, errW_some] <;> rfl), by repeat first | with_reducible exact HB.out | apply zS | refine below_set ?_ GE135.out | exact HB.out⟩
      · replace c7 := Bool.eq_false_iff.mpr c7
        subst c7
        have H1 : ((pannierref04_letter.f (bt a0 a1)).bind fun t142 => (if t142 = true then (pannierref04_next.l0 k a0 a1 a1) else (if (bt a0 a1) = 34 then ((pannierref04_text.f k a0 a1).bind fun bt147 => (some (bt147.1, bt147.2.1, bt147.2.2.1, bt147.2.2.2.1, bt147.2.2.2.2))) else (pannierref04_next.l1 k a0 a1 2)))) = some (r1, r2, r3, r4, r5) := by rw [if_neg (show ¬ (false = true) by decide)] at H; exact H
        clear H
        have H := H1
        clear H1
        replace H := Option.bind_eq_some_iff.mp H
        obtain ⟨t142, A120, H⟩ := H
        replace H : (if t142 = true then (pannierref04_next.l0 k a0 a1 a1) else (if (bt a0 a1) = 34 then ((pannierref04_text.f k a0 a1).bind fun bt147 => (some (bt147.1, bt147.2.1, bt147.2.2.1, bt147.2.2.2.1, bt147.2.2.2.2))) else (pannierref04_next.l1 k a0 a1 2))) = some (r1, r2, r3, r4, r5) := H
        have A12 := Aside0.mk A120
        clear A120
        by_cases c13 : t142 = true
        · subst c13
          have H1 : (pannierref04_next.l0 k a0 a1 a1) = some (r1, r2, r3, r4, r5) := by rw [if_pos rfl] at H; exact H
          clear H
          have H := H1
          clear H1
          have H' := Aside0.mk H
          clear H
          go_enter Tryd.func50, Tryd.ntmps50
          go_wp2_with (first | ((with_reducible refine gate_dst (N := 4) rfl ?_); refine box_event ?hg (N := 4) ?hd (cs := #[.int .i64 0, .int .i64 0, .string (⟨#[]⟩ : ByteArray), .int .i64 0]) (t := 50) ?hr ?_; (case hd => rfl); (case hg => rfl); (case hr => first | (go_simp; done) | (go_simp; rfl)); intro gb135 hg w14 hbox hb; have n0_ := Aside0.mk (below_step (by repeat first | with_reducible exact HB.out | apply zS | exact HB.out) hb); have n1_ := Aside0.mk (hbox); have n2_ := Aside0.mk ((by rw [hg]; exact (below_size (by repeat first | with_reducible exact HB.out | apply zS | exact HB.out)) : w.heap.size ≤ gb135)); have n3_ := n2_; clear HB; have HB := n0_; have BK135 := n1_; have GW135 := n2_; have GE135 := n3_; clear n0_ n1_ n2_ n3_; clear hb hbox hg; have p5 : 0 ≤ (a1 : Int) := of_decide_eq_true (by first | (with_reducible assumption) | assumption); have q5 : a1 < (a0.size : Int) := of_decide_eq_true (by first | (with_reducible assumption) | assumption); have hx5 := bt_at a0 a1; replace p5 := eq_true p5; replace q5 := eq_true q5) | (go_at_call 73; (with_reducible refine (pannierref04_digit.calls (bt a0 a1) false _ A6.out).mono ?_); rintro e w' ⟨rfl, ⟨nd, rfl⟩⟩; (try first | exact ⟨rfl, _, World.drewN_drewN _ _ _⟩ | exact ⟨rfl, _, Eq.trans (World.drewN_drewN _ _ _) (congrArg (World.drewN _) (Nat.add_assoc _ _ _))⟩)) | (go_at_call 75; (with_reducible refine (pannierref04_letter.calls (bt a0 a1) true _ A12.out).mono ?_); rintro e w' ⟨rfl, ⟨nd, rfl⟩⟩; (try first | exact ⟨rfl, _, World.drewN_drewN _ _ _⟩ | exact ⟨rfl, _, Eq.trans (World.drewN_drewN _ _ _) (congrArg (World.drewN _) (Nat.add_assoc _ _ _))⟩)))
          repeat (go_quiet (first | ((with_reducible refine gate_dst (N := 4) rfl ?_); refine box_event ?hg (N := 4) ?hd (cs := #[.int .i64 0, .int .i64 0, .string (⟨#[]⟩ : ByteArray), .int .i64 0]) (t := 50) ?hr ?_; (case hd => rfl); (case hg => rfl); (case hr => first | (go_simp; done) | (go_simp; rfl)); intro gb135 hg w14 hbox hb; have n0_ := Aside0.mk (below_step (by repeat first | with_reducible exact HB.out | apply zS | exact HB.out) hb); have n1_ := Aside0.mk (hbox); have n2_ := Aside0.mk ((by rw [hg]; exact (below_size (by repeat first | with_reducible exact HB.out | apply zS | exact HB.out)) : w.heap.size ≤ gb135)); have n3_ := n2_; clear HB; have HB := n0_; have BK135 := n1_; have GW135 := n2_; have GE135 := n3_; clear n0_ n1_ n2_ n3_; clear hb hbox hg; have p5 : 0 ≤ (a1 : Int) := of_decide_eq_true (by first | (with_reducible assumption) | assumption); have q5 : a1 < (a0.size : Int) := of_decide_eq_true (by first | (with_reducible assumption) | assumption); have hx5 := bt_at a0 a1; replace p5 := eq_true p5; replace q5 := eq_true q5) | (go_at_call 73; (with_reducible refine (pannierref04_digit.calls (bt a0 a1) false _ A6.out).mono ?_); rintro e w' ⟨rfl, ⟨nd, rfl⟩⟩; (try first | exact ⟨rfl, _, World.drewN_drewN _ _ _⟩ | exact ⟨rfl, _, Eq.trans (World.drewN_drewN _ _ _) (congrArg (World.drewN _) (Nat.add_assoc _ _ _))⟩)) | (go_at_call 75; (with_reducible refine (pannierref04_letter.calls (bt a0 a1) true _ A12.out).mono ?_); rintro e w' ⟨rfl, ⟨nd, rfl⟩⟩; (try first | exact ⟨rfl, _, World.drewN_drewN _ _ _⟩ | exact ⟨rfl, _, Eq.trans (World.drewN_drewN _ _ _) (congrArg (World.drewN _) (Nat.add_assoc _ _ _))⟩))); try go_wp2_with (first | ((with_reducible refine gate_dst (N := 4) rfl ?_); refine box_event ?hg (N := 4) ?hd (cs := #[.int .i64 0, .int .i64 0, .string (⟨#[]⟩ : ByteArray), .int .i64 0]) (t := 50) ?hr ?_; (case hd => rfl); (case hg => rfl); (case hr => first | (go_simp; done) | (go_simp; rfl)); intro gb135 hg w14 hbox hb; have n0_ := Aside0.mk (below_step (by repeat first | with_reducible exact HB.out | apply zS | exact HB.out) hb); have n1_ := Aside0.mk (hbox); have n2_ := Aside0.mk ((by rw [hg]; exact (below_size (by repeat first | with_reducible exact HB.out | apply zS | exact HB.out)) : w.heap.size ≤ gb135)); have n3_ := n2_; clear HB; have HB := n0_; have BK135 := n1_; have GW135 := n2_; have GE135 := n3_; clear n0_ n1_ n2_ n3_; clear hb hbox hg; have p5 : 0 ≤ (a1 : Int) := of_decide_eq_true (by first | (with_reducible assumption) | assumption); have q5 : a1 < (a0.size : Int) := of_decide_eq_true (by first | (with_reducible assumption) | assumption); have hx5 := bt_at a0 a1; replace p5 := eq_true p5; replace q5 := eq_true q5) | (go_at_call 73; (with_reducible refine (pannierref04_digit.calls (bt a0 a1) false _ A6.out).mono ?_); rintro e w' ⟨rfl, ⟨nd, rfl⟩⟩; (try first | exact ⟨rfl, _, World.drewN_drewN _ _ _⟩ | exact ⟨rfl, _, Eq.trans (World.drewN_drewN _ _ _) (congrArg (World.drewN _) (Nat.add_assoc _ _ _))⟩)) | (go_at_call 75; (with_reducible refine (pannierref04_letter.calls (bt a0 a1) true _ A12.out).mono ?_); rintro e w' ⟨rfl, ⟨nd, rfl⟩⟩; (try first | exact ⟨rfl, _, World.drewN_drewN _ _ _⟩ | exact ⟨rfl, _, Eq.trans (World.drewN_drewN _ _ _) (congrArg (World.drewN _) (Nat.add_assoc _ _ _))⟩))))
          go_loopg [7] k (fun kq v7 w' => ∃ (x7_1 : Int), v7 = .int .i64 x7_1 ∧ Aside0 (pannierref04_next.l0 kq a0 a1 x7_1 = some (r1, r2, r3, r4, r5)) ∧ Aside0 (kq ≤ k) ∧ Aside0 (w'.heap[gb135]? = some (.cells #[.int .i64 0, .int .i64 0, .string (⟨#[]⟩ : ByteArray), .int .i64 0] 50 (0, 0))) ∧ Aside0 (Below w.heap.size w w'))
          case atStart => exact ⟨(a1), (by first | rfl | (simp; done) | (simp [*]; done)), H', ⟨Nat.le_refl _⟩, ⟨by exact zB BK135.out⟩, ⟨by repeat first | with_reducible exact HB.out | apply zS | refine below_set ?_ GE135.out | exact HB.out⟩⟩
          case round =>
            clear H'
            try clear c1
            try clear p2
            try clear c3
            try clear c3b0
            try clear c4
            try clear c4b0
            try clear c5
            try clear p5
            try clear q5
            try clear hx5
            try clear c7
            try clear c13
            try clear hcz11_0
            try clear hcz11_1
            try clear hcz11_2
            try clear hcz11_3
            try clear hfz11_0
            try clear hfz11_1
            try clear hfz11_2
            try clear hfz11_3
            try clear p5
            try clear q5
            obtain ⟨x7_1, rfl, HA, HK1, BK135, HB⟩ := hrel
            cases gk with
            | zero => exact absurd HA.out (by simp [pannierref04_next.l0])
            | succ k1 =>
              have H := HA.out
              clear HA
              simp only [pannierref04_next.l0] at H
              by_cases c15 : x7_1 < (a0.size : Int)
              · rw [if_pos c15] at H
                have c15b0 : decide (x7_1 < (a0.size : Int)) = true := decide_eq_true c15
                clear c15
                by_cases c16 : 0 ≤ x7_1
                · rw [if_pos c16] at H
                  have c16b0 : decide (0 ≤ x7_1) = true := decide_eq_true c16
                  clear c16
                  replace H := Option.bind_eq_some_iff.mp H
                  obtain ⟨t143, A180, H⟩ := H
                  replace H : (if t143 = true then (pannierref04_next.l0 k1 a0 a1 (wrap64 (x7_1 + 1))) else ((pannierref04_digit.f (bt a0 x7_1)).bind fun t144 => (if t144 = true then (pannierref04_next.l0 k1 a0 a1 (wrap64 (x7_1 + 1))) else (if 0 ≤ a1 then (if a1 ≤ x7_1 then (if x7_1 ≤ (a0.size : Int) then ((pannierref04_Upper.f (a0.extract (a1 : Int).toNat (x7_1 : Int).toNat)).bind fun t145 => (some (3, 0, t145, a1, wrap64 (x7_1 - a1)))) else (none)) else (none)) else (none))))) = some (r1, r2, r3, r4, r5) := H
                  have A18 := Aside0.mk A180
                  clear A180
                  by_cases c19 : t143 = true
                  · subst c19
                    have H1 : (pannierref04_next.l0 k1 a0 a1 (wrap64 (x7_1 + 1))) = some (r1, r2, r3, r4, r5) := by rw [if_pos rfl] at H; exact H
                    clear H
                    have H := H1
                    clear H1
                    have H' := Aside0.mk H
                    clear H
                    have p17 : 0 ≤ (x7_1 : Int) := of_decide_eq_true (by first | (with_reducible assumption) | assumption)
                    have q17 : x7_1 < (a0.size : Int) := of_decide_eq_true (by first | (with_reducible assumption) | assumption)
                    have hx17 := bt_at a0 x7_1
                    replace p17 := eq_true p17
                    replace q17 := eq_true q17
                    go_wp2_with (first | (go_at_call 75; (with_reducible refine (pannierref04_letter.calls (bt a0 x7_1) true _ A18.out).mono ?_); rintro e w' ⟨rfl, ⟨nd, rfl⟩⟩; (try first | exact ⟨rfl, _, World.drewN_drewN _ _ _⟩ | exact ⟨rfl, _, Eq.trans (World.drewN_drewN _ _ _) (congrArg (World.drewN _) (Nat.add_assoc _ _ _))⟩)))
                    repeat (go_quiet (first | (go_at_call 75; (with_reducible refine (pannierref04_letter.calls (bt a0 x7_1) true _ A18.out).mono ?_); rintro e w' ⟨rfl, ⟨nd, rfl⟩⟩; (try first | exact ⟨rfl, _, World.drewN_drewN _ _ _⟩ | exact ⟨rfl, _, Eq.trans (World.drewN_drewN _ _ _) (congrArg (World.drewN _) (Nat.add_assoc _ _ _))⟩))); try go_wp2_with (first | (go_at_call 75; (with_reducible refine (pannierref04_letter.calls (bt a0 x7_1) true _ A18.out).mono ?_); rintro e w' ⟨rfl, ⟨nd, rfl⟩⟩; (try first | exact ⟨rfl, _, World.drewN_drewN _ _ _⟩ | exact ⟨rfl, _, Eq.trans (World.drewN_drewN _ _ _) (congrArg (World.drewN _) (Nat.add_assoc _ _ _))⟩))))
                    go_roundg k1
                    case measure => have := HK1.out; omega
                    case rel => exact ⟨(wrap64 (x7_1 + 1)), (by first | rfl | (simp; done) | (simp [*]; done)), H', ⟨by have := HK1.out; omega⟩, ⟨by exact zB BK135.out⟩, ⟨by repeat first | with_reducible exact HB.out | apply zS | refine below_set ?_ GE135.out | exact HB.out⟩⟩
                  · replace c19 := Bool.eq_false_iff.mpr c19
                    subst c19
                    have H1 : ((pannierref04_digit.f (bt a0 x7_1)).bind fun t144 => (if t144 = true then (pannierref04_next.l0 k1 a0 a1 (wrap64 (x7_1 + 1))) else (if 0 ≤ a1 then (if a1 ≤ x7_1 then (if x7_1 ≤ (a0.size : Int) then ((pannierref04_Upper.f (a0.extract (a1 : Int).toNat (x7_1 : Int).toNat)).bind fun t145 => (some (3, 0, t145, a1, wrap64 (x7_1 - a1)))) else (none)) else (none)) else (none)))) = some (r1, r2, r3, r4, r5) := by rw [if_neg (show ¬ (false = true) by decide)] at H; exact H
                    clear H
                    have H := H1
                    clear H1
                    replace H := Option.bind_eq_some_iff.mp H
                    obtain ⟨t144, A210, H⟩ := H
                    replace H : (if t144 = true then (pannierref04_next.l0 k1 a0 a1 (wrap64 (x7_1 + 1))) else (if 0 ≤ a1 then (if a1 ≤ x7_1 then (if x7_1 ≤ (a0.size : Int) then ((pannierref04_Upper.f (a0.extract (a1 : Int).toNat (x7_1 : Int).toNat)).bind fun t145 => (some (3, 0, t145, a1, wrap64 (x7_1 - a1)))) else (none)) else (none)) else (none))) = some (r1, r2, r3, r4, r5) := H
                    have A21 := Aside0.mk A210
                    clear A210
                    by_cases c22 : t144 = true
                    · subst c22
                      have H1 : (pannierref04_next.l0 k1 a0 a1 (wrap64 (x7_1 + 1))) = some (r1, r2, r3, r4, r5) := by rw [if_pos rfl] at H; exact H
                      clear H
                      have H := H1
                      clear H1
                      have H' := Aside0.mk H
                      clear H
                      have p17 : 0 ≤ (x7_1 : Int) := of_decide_eq_true (by first | (with_reducible assumption) | assumption)
                      have q17 : x7_1 < (a0.size : Int) := of_decide_eq_true (by first | (with_reducible assumption) | assumption)
                      have hx17 := bt_at a0 x7_1
                      replace p17 := eq_true p17
                      replace q17 := eq_true q17
                      go_wp2_with (first | (go_at_call 75; (with_reducible refine (pannierref04_letter.calls (bt a0 x7_1) false _ A18.out).mono ?_); rintro e w' ⟨rfl, ⟨nd, rfl⟩⟩; (try first | exact ⟨rfl, _, World.drewN_drewN _ _ _⟩ | exact ⟨rfl, _, Eq.trans (World.drewN_drewN _ _ _) (congrArg (World.drewN _) (Nat.add_assoc _ _ _))⟩); have p20 : 0 ≤ (x7_1 : Int) := of_decide_eq_true (by first | (with_reducible assumption) | assumption); have q20 : x7_1 < (a0.size : Int) := of_decide_eq_true (by first | (with_reducible assumption) | assumption); have hx20 := bt_at a0 x7_1; replace p20 := eq_true p20; replace q20 := eq_true q20) | (go_at_call 73; (with_reducible refine (pannierref04_digit.calls (bt a0 x7_1) true _ A21.out).mono ?_); rintro e w' ⟨rfl, ⟨nd, rfl⟩⟩; (try first | exact ⟨rfl, _, World.drewN_drewN _ _ _⟩ | exact ⟨rfl, _, Eq.trans (World.drewN_drewN _ _ _) (congrArg (World.drewN _) (Nat.add_assoc _ _ _))⟩)))
                      repeat (go_quiet (first | (go_at_call 75; (with_reducible refine (pannierref04_letter.calls (bt a0 x7_1) false _ A18.out).mono ?_); rintro e w' ⟨rfl, ⟨nd, rfl⟩⟩; (try first | exact ⟨rfl, _, World.drewN_drewN _ _ _⟩ | exact ⟨rfl, _, Eq.trans (World.drewN_drewN _ _ _) (congrArg (World.drewN _) (Nat.add_assoc _ _ _))⟩); have p20 : 0 ≤ (x7_1 : Int) := of_decide_eq_true (by first | (with_reducible assumption) | assumption); have q20 : x7_1 < (a0.size : Int) := of_decide_eq_true (by first | (with_reducible assumption) | assumption); have hx20 := bt_at a0 x7_1; replace p20 := eq_true p20; replace q20 := eq_true q20) | (go_at_call 73; (with_reducible refine (pannierref04_digit.calls (bt a0 x7_1) true _ A21.out).mono ?_); rintro e w' ⟨rfl, ⟨nd, rfl⟩⟩; (try first | exact ⟨rfl, _, World.drewN_drewN _ _ _⟩ | exact ⟨rfl, _, Eq.trans (World.drewN_drewN _ _ _) (congrArg (World.drewN _) (Nat.add_assoc _ _ _))⟩))); try go_wp2_with (first | (go_at_call 75; (with_reducible refine (pannierref04_letter.calls (bt a0 x7_1) false _ A18.out).mono ?_); rintro e w' ⟨rfl, ⟨nd, rfl⟩⟩; (try first | exact ⟨rfl, _, World.drewN_drewN _ _ _⟩ | exact ⟨rfl, _, Eq.trans (World.drewN_drewN _ _ _) (congrArg (World.drewN _) (Nat.add_assoc _ _ _))⟩); have p20 : 0 ≤ (x7_1 : Int) := of_decide_eq_true (by first | (with_reducible assumption) | assumption); have q20 : x7_1 < (a0.size : Int) := of_decide_eq_true (by first | (with_reducible assumption) | assumption); have hx20 := bt_at a0 x7_1; replace p20 := eq_true p20; replace q20 := eq_true q20) | (go_at_call 73; (with_reducible refine (pannierref04_digit.calls (bt a0 x7_1) true _ A21.out).mono ?_); rintro e w' ⟨rfl, ⟨nd, rfl⟩⟩; (try first | exact ⟨rfl, _, World.drewN_drewN _ _ _⟩ | exact ⟨rfl, _, Eq.trans (World.drewN_drewN _ _ _) (congrArg (World.drewN _) (Nat.add_assoc _ _ _))⟩))))
                      go_roundg k1
                      case measure => have := HK1.out; omega
                      case rel => exact ⟨(wrap64 (x7_1 + 1)), (by first | rfl | (simp; done) | (simp [*]; done)), H', ⟨by have := HK1.out; omega⟩, ⟨by exact zB BK135.out⟩, ⟨by repeat first | with_reducible exact HB.out | apply zS | refine below_set ?_ GE135.out | exact HB.out⟩⟩
                    · replace c22 := Bool.eq_false_iff.mpr c22
                      subst c22
                      have H1 : (if 0 ≤ a1 then (if a1 ≤ x7_1 then (if x7_1 ≤ (a0.size : Int) then ((pannierref04_Upper.f (a0.extract (a1 : Int).toNat (x7_1 : Int).toNat)).bind fun t145 => (some (3, 0, t145, a1, wrap64 (x7_1 - a1)))) else (none)) else (none)) else (none)) = some (r1, r2, r3, r4, r5) := by rw [if_neg (show ¬ (false = true) by decide)] at H; exact H
                      clear H
                      have H := H1
                      clear H1
                      by_cases c23 : 0 ≤ a1
                      · rw [if_pos c23] at H
                        have c23b0 := eq_true c23
                        have c23b1 : decide (0 ≤ a1) = true := decide_eq_true c23
                        clear c23
                        by_cases c24 : a1 ≤ x7_1
                        · rw [if_pos c24] at H
                          have c24b0 := eq_true c24
                          have c24b1 : decide (a1 ≤ x7_1) = true := decide_eq_true c24
                          clear c24
                          by_cases c25 : x7_1 ≤ (a0.size : Int)
                          · rw [if_pos c25] at H
                            have c25b0 := eq_true c25
                            have c25b1 : decide (x7_1 ≤ (a0.size : Int)) = true := decide_eq_true c25
                            clear c25
                            replace H := Option.bind_eq_some_iff.mp H
                            obtain ⟨t145, A260, H⟩ := H
                            replace H : (some (3, 0, t145, a1, wrap64 (x7_1 - a1))) = some (r1, r2, r3, r4, r5) := H
                            have A26 := Aside0.mk A260
                            clear A260
                            simp only [Option.some.injEq, Prod.mk.injEq] at H
                            obtain ⟨rfl, rfl, rfl, rfl, rfl⟩ := H
                            have p17 : 0 ≤ (x7_1 : Int) := of_decide_eq_true (by first | (with_reducible assumption) | assumption)
                            have q17 : x7_1 < (a0.size : Int) := of_decide_eq_true (by first | (with_reducible assumption) | assumption)
                            have hx17 := bt_at a0 x7_1
                            replace p17 := eq_true p17
                            replace q17 := eq_true q17
                            go_wp2_with (first | (go_at_call 75; (with_reducible refine (pannierref04_letter.calls (bt a0 x7_1) false _ A18.out).mono ?_); rintro e w' ⟨rfl, ⟨nd, rfl⟩⟩; (try first | exact ⟨rfl, _, World.drewN_drewN _ _ _⟩ | exact ⟨rfl, _, Eq.trans (World.drewN_drewN _ _ _) (congrArg (World.drewN _) (Nat.add_assoc _ _ _))⟩); have p20 : 0 ≤ (x7_1 : Int) := of_decide_eq_true (by first | (with_reducible assumption) | assumption); have q20 : x7_1 < (a0.size : Int) := of_decide_eq_true (by first | (with_reducible assumption) | assumption); have hx20 := bt_at a0 x7_1; replace p20 := eq_true p20; replace q20 := eq_true q20) | (go_at_call 73; (with_reducible refine (pannierref04_digit.calls (bt a0 x7_1) false _ A21.out).mono ?_); rintro e w' ⟨rfl, ⟨nd, rfl⟩⟩; (try first | exact ⟨rfl, _, World.drewN_drewN _ _ _⟩ | exact ⟨rfl, _, Eq.trans (World.drewN_drewN _ _ _) (congrArg (World.drewN _) (Nat.add_assoc _ _ _))⟩)) | (go_at_call 24; (with_reducible refine (pannierref04_Upper.calls (a0.extract (a1 : Int).toNat (x7_1 : Int).toNat) t145 _ A26.out).mono ?_); rintro e w27 ⟨rfl, hb⟩; have n0_ := Aside0.mk (blk_below (g := gb135) (o := .cells #[.int .i64 0, .int .i64 0, .string (⟨#[]⟩ : ByteArray), .int .i64 0] 50 (0, 0)) (zB BK135.out) hb); have n1_ := Aside0.mk (below_step (by repeat first | with_reducible exact HB.out | apply zS | refine below_set ?_ GE135.out | exact HB.out) hb); clear BK135; clear HB; have BK135 := n0_; have HB := n1_; clear n0_ n1_; (try clear hb); (try clear hb2); (try clear hk); (try clear hi); obtain ⟨hcz28_0, hcz28_1, hcz28_2, hcz28_3, hfz28_0, hfz28_1, hfz28_2, hfz28_3⟩ := zC4 BK135.out))
                            repeat (go_quiet (first | (go_at_call 75; (with_reducible refine (pannierref04_letter.calls (bt a0 x7_1) false _ A18.out).mono ?_); rintro e w' ⟨rfl, ⟨nd, rfl⟩⟩; (try first | exact ⟨rfl, _, World.drewN_drewN _ _ _⟩ | exact ⟨rfl, _, Eq.trans (World.drewN_drewN _ _ _) (congrArg (World.drewN _) (Nat.add_assoc _ _ _))⟩); have p20 : 0 ≤ (x7_1 : Int) := of_decide_eq_true (by first | (with_reducible assumption) | assumption); have q20 : x7_1 < (a0.size : Int) := of_decide_eq_true (by first | (with_reducible assumption) | assumption); have hx20 := bt_at a0 x7_1; replace p20 := eq_true p20; replace q20 := eq_true q20) | (go_at_call 73; (with_reducible refine (pannierref04_digit.calls (bt a0 x7_1) false _ A21.out).mono ?_); rintro e w' ⟨rfl, ⟨nd, rfl⟩⟩; (try first | exact ⟨rfl, _, World.drewN_drewN _ _ _⟩ | exact ⟨rfl, _, Eq.trans (World.drewN_drewN _ _ _) (congrArg (World.drewN _) (Nat.add_assoc _ _ _))⟩)) | (go_at_call 24; (with_reducible refine (pannierref04_Upper.calls (a0.extract (a1 : Int).toNat (x7_1 : Int).toNat) t145 _ A26.out).mono ?_); rintro e w27 ⟨rfl, hb⟩; have n0_ := Aside0.mk (blk_below (g := gb135) (o := .cells #[.int .i64 0, .int .i64 0, .string (⟨#[]⟩ : ByteArray), .int .i64 0] 50 (0, 0)) (zB BK135.out) hb); have n1_ := Aside0.mk (below_step (by repeat first | with_reducible exact HB.out | apply zS | refine below_set ?_ GE135.out | exact HB.out) hb); clear BK135; clear HB; have BK135 := n0_; have HB := n1_; clear n0_ n1_; (try clear hb); (try clear hb2); (try clear hk); (try clear hi); obtain ⟨hcz28_0, hcz28_1, hcz28_2, hcz28_3, hfz28_0, hfz28_1, hfz28_2, hfz28_3⟩ := zC4 BK135.out)); try go_wp2_with (first | (go_at_call 75; (with_reducible refine (pannierref04_letter.calls (bt a0 x7_1) false _ A18.out).mono ?_); rintro e w' ⟨rfl, ⟨nd, rfl⟩⟩; (try first | exact ⟨rfl, _, World.drewN_drewN _ _ _⟩ | exact ⟨rfl, _, Eq.trans (World.drewN_drewN _ _ _) (congrArg (World.drewN _) (Nat.add_assoc _ _ _))⟩); have p20 : 0 ≤ (x7_1 : Int) := of_decide_eq_true (by first | (with_reducible assumption) | assumption); have q20 : x7_1 < (a0.size : Int) := of_decide_eq_true (by first | (with_reducible assumption) | assumption); have hx20 := bt_at a0 x7_1; replace p20 := eq_true p20; replace q20 := eq_true q20) | (go_at_call 73; (with_reducible refine (pannierref04_digit.calls (bt a0 x7_1) false _ A21.out).mono ?_); rintro e w' ⟨rfl, ⟨nd, rfl⟩⟩; (try first | exact ⟨rfl, _, World.drewN_drewN _ _ _⟩ | exact ⟨rfl, _, Eq.trans (World.drewN_drewN _ _ _) (congrArg (World.drewN _) (Nat.add_assoc _ _ _))⟩)) | (go_at_call 24; (with_reducible refine (pannierref04_Upper.calls (a0.extract (a1 : Int).toNat (x7_1 : Int).toNat) t145 _ A26.out).mono ?_); rintro e w27 ⟨rfl, hb⟩; have n0_ := Aside0.mk (blk_below (g := gb135) (o := .cells #[.int .i64 0, .int .i64 0, .string (⟨#[]⟩ : ByteArray), .int .i64 0] 50 (0, 0)) (zB BK135.out) hb); have n1_ := Aside0.mk (below_step (by repeat first | with_reducible exact HB.out | apply zS | refine below_set ?_ GE135.out | exact HB.out) hb); clear BK135; clear HB; have BK135 := n0_; have HB := n1_; clear n0_ n1_; (try clear hb); (try clear hb2); (try clear hk); (try clear hi); obtain ⟨hcz28_0, hcz28_1, hcz28_2, hcz28_3, hfz28_0, hfz28_1, hfz28_2, hfz28_3⟩ := zC4 BK135.out)))
                            refine bodyPost_ret (results_ct rfl _ _ gb135 50 #[.int .i64 3, .int .i64 0, .string t145, .int .i64 a1] (0, 0) _ rfl (by (with_reducible repeat (first | refine blk_drewN ?_ _ | refine blk_drew ?_ | refine blk_alloc ?_ _)); refine blk_put (cs := #[.int .i64 3, .int .i64 0, .string t145, .int .i64 0]) ?_ 3 _ rfl; (with_reducible repeat (first | refine blk_drewN ?_ _ | refine blk_drew ?_ | refine blk_alloc ?_ _)); refine blk_put (cs := #[.int .i64 3, .int .i64 0, .string (⟨#[]⟩ : ByteArray), .int .i64 0]) ?_ 2 _ rfl; (with_reducible repeat (first | refine blk_drewN ?_ _ | refine blk_drew ?_ | refine blk_alloc ?_ _)); refine blk_put (cs := #[.int .i64 3, .int .i64 0, .string (⟨#[]⟩ : ByteArray), .int .i64 0]) ?_ 1 _ rfl; (with_reducible repeat (first | refine blk_drewN ?_ _ | refine blk_drew ?_ | refine blk_alloc ?_ _)); refine blk_put (cs := #[.int .i64 0, .int .i64 0, .string (⟨#[]⟩ : ByteArray), .int .i64 0]) ?_ 0 _ rfl; (with_reducible repeat (first | refine blk_drewN ?_ _ | refine blk_drew ?_ | refine blk_alloc ?_ _)); exact BK135.out) Tryd.underlying50 rfl (by kernel_rfl)) rfl ?_
                            exact ⟨by first | rfl | (simp [errW_none, errW_some] <;> rfl) | (simp [*, errW_none, errW_some] <;> rfl), by repeat first | with_reducible exact HB.out | apply zS | refine below_set ?_ GE135.out | exact HB.out⟩
                          · rw [if_neg c25] at H
                            exact absurd H (by simp)
                        · rw [if_neg c24] at H
                          exact absurd H (by simp)
                      · rw [if_neg c23] at H
                        exact absurd H (by simp)
                · rw [if_neg c16] at H
                  exact absurd H (by simp)
              · rw [if_neg c15] at H
                have c15b0 : decide (x7_1 < (a0.size : Int)) = false := decide_eq_false c15
                clear c15
                by_cases c29 : 0 ≤ a1
                · rw [if_pos c29] at H
                  have c29b0 := eq_true c29
                  have c29b1 : decide (0 ≤ a1) = true := decide_eq_true c29
                  clear c29
                  by_cases c30 : a1 ≤ x7_1
                  · rw [if_pos c30] at H
                    have c30b0 := eq_true c30
                    have c30b1 : decide (a1 ≤ x7_1) = true := decide_eq_true c30
                    clear c30
                    by_cases c31 : x7_1 ≤ (a0.size : Int)
                    · rw [if_pos c31] at H
                      have c31b0 := eq_true c31
                      have c31b1 : decide (x7_1 ≤ (a0.size : Int)) = true := decide_eq_true c31
                      clear c31
                      replace H := Option.bind_eq_some_iff.mp H
                      obtain ⟨t146, A320, H⟩ := H
                      replace H : (some (3, 0, t146, a1, wrap64 (x7_1 - a1))) = some (r1, r2, r3, r4, r5) := H
                      have A32 := Aside0.mk A320
                      clear A320
                      simp only [Option.some.injEq, Prod.mk.injEq] at H
                      obtain ⟨rfl, rfl, rfl, rfl, rfl⟩ := H
                      go_wp2_with (first | (go_at_call 24; (with_reducible refine (pannierref04_Upper.calls (a0.extract (a1 : Int).toNat (x7_1 : Int).toNat) t146 _ A32.out).mono ?_); rintro e w33 ⟨rfl, hb⟩; have n0_ := Aside0.mk (blk_below (g := gb135) (o := .cells #[.int .i64 0, .int .i64 0, .string (⟨#[]⟩ : ByteArray), .int .i64 0] 50 (0, 0)) (zB BK135.out) hb); have n1_ := Aside0.mk (below_step (by repeat first | with_reducible exact HB.out | apply zS | refine below_set ?_ GE135.out | exact HB.out) hb); clear BK135; clear HB; have BK135 := n0_; have HB := n1_; clear n0_ n1_; (try clear hb); (try clear hb2); (try clear hk); (try clear hi); obtain ⟨hcz34_0, hcz34_1, hcz34_2, hcz34_3, hfz34_0, hfz34_1, hfz34_2, hfz34_3⟩ := zC4 BK135.out))
                      repeat (go_quiet (first | (go_at_call 24; (with_reducible refine (pannierref04_Upper.calls (a0.extract (a1 : Int).toNat (x7_1 : Int).toNat) t146 _ A32.out).mono ?_); rintro e w33 ⟨rfl, hb⟩; have n0_ := Aside0.mk (blk_below (g := gb135) (o := .cells #[.int .i64 0, .int .i64 0, .string (⟨#[]⟩ : ByteArray), .int .i64 0] 50 (0, 0)) (zB BK135.out) hb); have n1_ := Aside0.mk (below_step (by repeat first | with_reducible exact HB.out | apply zS | refine below_set ?_ GE135.out | exact HB.out) hb); clear BK135; clear HB; have BK135 := n0_; have HB := n1_; clear n0_ n1_; (try clear hb); (try clear hb2); (try clear hk); (try clear hi); obtain ⟨hcz34_0, hcz34_1, hcz34_2, hcz34_3, hfz34_0, hfz34_1, hfz34_2, hfz34_3⟩ := zC4 BK135.out)); try go_wp2_with (first | (go_at_call 24; (with_reducible refine (pannierref04_Upper.calls (a0.extract (a1 : Int).toNat (x7_1 : Int).toNat) t146 _ A32.out).mono ?_); rintro e w33 ⟨rfl, hb⟩; have n0_ := Aside0.mk (blk_below (g := gb135) (o := .cells #[.int .i64 0, .int .i64 0, .string (⟨#[]⟩ : ByteArray), .int .i64 0] 50 (0, 0)) (zB BK135.out) hb); have n1_ := Aside0.mk (below_step (by repeat first | with_reducible exact HB.out | apply zS | refine below_set ?_ GE135.out | exact HB.out) hb); clear BK135; clear HB; have BK135 := n0_; have HB := n1_; clear n0_ n1_; (try clear hb); (try clear hb2); (try clear hk); (try clear hi); obtain ⟨hcz34_0, hcz34_1, hcz34_2, hcz34_3, hfz34_0, hfz34_1, hfz34_2, hfz34_3⟩ := zC4 BK135.out)))
                      refine bodyPost_ret (results_ct rfl _ _ gb135 50 #[.int .i64 3, .int .i64 0, .string t146, .int .i64 a1] (0, 0) _ rfl (by (with_reducible repeat (first | refine blk_drewN ?_ _ | refine blk_drew ?_ | refine blk_alloc ?_ _)); refine blk_put (cs := #[.int .i64 3, .int .i64 0, .string t146, .int .i64 0]) ?_ 3 _ rfl; (with_reducible repeat (first | refine blk_drewN ?_ _ | refine blk_drew ?_ | refine blk_alloc ?_ _)); refine blk_put (cs := #[.int .i64 3, .int .i64 0, .string (⟨#[]⟩ : ByteArray), .int .i64 0]) ?_ 2 _ rfl; (with_reducible repeat (first | refine blk_drewN ?_ _ | refine blk_drew ?_ | refine blk_alloc ?_ _)); refine blk_put (cs := #[.int .i64 3, .int .i64 0, .string (⟨#[]⟩ : ByteArray), .int .i64 0]) ?_ 1 _ rfl; (with_reducible repeat (first | refine blk_drewN ?_ _ | refine blk_drew ?_ | refine blk_alloc ?_ _)); refine blk_put (cs := #[.int .i64 0, .int .i64 0, .string (⟨#[]⟩ : ByteArray), .int .i64 0]) ?_ 0 _ rfl; (with_reducible repeat (first | refine blk_drewN ?_ _ | refine blk_drew ?_ | refine blk_alloc ?_ _)); exact BK135.out) Tryd.underlying50 rfl (by kernel_rfl)) rfl ?_
                      exact ⟨by first | rfl | (simp [errW_none, errW_some] <;> rfl) | (simp [*, errW_none, errW_some] <;> rfl), by repeat first | with_reducible exact HB.out | apply zS | refine below_set ?_ GE135.out | exact HB.out⟩
                    · rw [if_neg c31] at H
                      exact absurd H (by simp)
                  · rw [if_neg c30] at H
                    exact absurd H (by simp)
                · rw [if_neg c29] at H
                  exact absurd H (by simp)
        · replace c13 := Bool.eq_false_iff.mpr c13
          subst c13
          have H1 : (if (bt a0 a1) = 34 then ((pannierref04_text.f k a0 a1).bind fun bt147 => (some (bt147.1, bt147.2.1, bt147.2.2.1, bt147.2.2.2.1, bt147.2.2.2.2))) else (pannierref04_next.l1 k a0 a1 2)) = some (r1, r2, r3, r4, r5) := by rw [if_neg (show ¬ (false = true) by decide)] at H; exact H
          clear H
          have H := H1
          clear H1
          by_cases c35 : (bt a0 a1) = 34
          · rw [if_pos c35] at H
            have c35b0 : ((bt a0 a1) == 34) = true := beq_iff_eq.mpr c35
            have c35b1 : ((bt a0 a1) != 34) = false := bne_eq_false_iff_eq.mpr c35
            clear c35
            replace H := Option.bind_eq_some_iff.mp H
            obtain ⟨⟨t147, t148, t149, t150, t151⟩, A360, H⟩ := H
            replace H : (some (t147, t148, t149, t150, t151)) = some (r1, r2, r3, r4, r5) := H
            have A36 := Aside0.mk A360
            clear A360
            simp only [Option.some.injEq, Prod.mk.injEq] at H
            obtain ⟨rfl, rfl, rfl, rfl, rfl⟩ := H
            go_enter Tryd.func50, Tryd.ntmps50
            go_wp2_with (first | ((with_reducible refine gate_dst (N := 4) rfl ?_); refine box_event ?hg (N := 4) ?hd (cs := #[.int .i64 0, .int .i64 0, .string (⟨#[]⟩ : ByteArray), .int .i64 0]) (t := 50) ?hr ?_; (case hd => rfl); (case hg => rfl); (case hr => first | (go_simp; done) | (go_simp; rfl)); intro gb135 hg w37 hbox hb; have n0_ := Aside0.mk (below_step (by repeat first | with_reducible exact HB.out | apply zS | exact HB.out) hb); have n1_ := Aside0.mk (hbox); have n2_ := Aside0.mk ((by rw [hg]; exact (below_size (by repeat first | with_reducible exact HB.out | apply zS | exact HB.out)) : w.heap.size ≤ gb135)); have n3_ := n2_; clear HB; have HB := n0_; have BK135 := n1_; have GW135 := n2_; have GE135 := n3_; clear n0_ n1_ n2_ n3_; clear hb hbox hg; have p5 : 0 ≤ (a1 : Int) := of_decide_eq_true (by first | (with_reducible assumption) | assumption); have q5 : a1 < (a0.size : Int) := of_decide_eq_true (by first | (with_reducible assumption) | assumption); have hx5 := bt_at a0 a1; replace p5 := eq_true p5; replace q5 := eq_true q5) | (go_at_call 73; (with_reducible refine (pannierref04_digit.calls (bt a0 a1) false _ A6.out).mono ?_); rintro e w' ⟨rfl, ⟨nd, rfl⟩⟩; (try first | exact ⟨rfl, _, World.drewN_drewN _ _ _⟩ | exact ⟨rfl, _, Eq.trans (World.drewN_drewN _ _ _) (congrArg (World.drewN _) (Nat.add_assoc _ _ _))⟩)) | (go_at_call 75; (with_reducible refine (pannierref04_letter.calls (bt a0 a1) false _ A12.out).mono ?_); rintro e w' ⟨rfl, ⟨nd, rfl⟩⟩; (try first | exact ⟨rfl, _, World.drewN_drewN _ _ _⟩ | exact ⟨rfl, _, Eq.trans (World.drewN_drewN _ _ _) (congrArg (World.drewN _) (Nat.add_assoc _ _ _))⟩)) | (go_at_call 76; (with_reducible refine (pannierref04_text.calls k a0 a1 t147 t148 t149 t150 t151 _ A36.out).mono ?_); rintro e w38 ⟨rfl, hb⟩; have n0_ := Aside0.mk (blk_below (g := gb135) (o := .cells #[.int .i64 0, .int .i64 0, .string (⟨#[]⟩ : ByteArray), .int .i64 0] 50 (0, 0)) (zB BK135.out) hb); have n1_ := Aside0.mk (below_step (by repeat first | with_reducible exact HB.out | apply zS | refine below_set ?_ GE135.out | exact HB.out) hb); clear BK135; clear HB; have BK135 := n0_; have HB := n1_; clear n0_ n1_; (try clear hb); (try clear hb2); (try clear hk); (try clear hi); obtain ⟨hcz39_0, hcz39_1, hcz39_2, hcz39_3, hfz39_0, hfz39_1, hfz39_2, hfz39_3⟩ := zC4 BK135.out))
            repeat (go_quiet (first | ((with_reducible refine gate_dst (N := 4) rfl ?_); refine box_event ?hg (N := 4) ?hd (cs := #[.int .i64 0, .int .i64 0, .string (⟨#[]⟩ : ByteArray), .int .i64 0]) (t := 50) ?hr ?_; (case hd => rfl); (case hg => rfl); (case hr => first | (go_simp; done) | (go_simp; rfl)); intro gb135 hg w37 hbox hb; have n0_ := Aside0.mk (below_step (by repeat first | with_reducible exact HB.out | apply zS | exact HB.out) hb); have n1_ := Aside0.mk (hbox); have n2_ := Aside0.mk ((by rw [hg]; exact (below_size (by repeat first | with_reducible exact HB.out | apply zS | exact HB.out)) : w.heap.size ≤ gb135)); have n3_ := n2_; clear HB; have HB := n0_; have BK135 := n1_; have GW135 := n2_; have GE135 := n3_; clear n0_ n1_ n2_ n3_; clear hb hbox hg; have p5 : 0 ≤ (a1 : Int) := of_decide_eq_true (by first | (with_reducible assumption) | assumption); have q5 : a1 < (a0.size : Int) := of_decide_eq_true (by first | (with_reducible assumption) | assumption); have hx5 := bt_at a0 a1; replace p5 := eq_true p5; replace q5 := eq_true q5) | (go_at_call 73; (with_reducible refine (pannierref04_digit.calls (bt a0 a1) false _ A6.out).mono ?_); rintro e w' ⟨rfl, ⟨nd, rfl⟩⟩; (try first | exact ⟨rfl, _, World.drewN_drewN _ _ _⟩ | exact ⟨rfl, _, Eq.trans (World.drewN_drewN _ _ _) (congrArg (World.drewN _) (Nat.add_assoc _ _ _))⟩)) | (go_at_call 75; (with_reducible refine (pannierref04_letter.calls (bt a0 a1) false _ A12.out).mono ?_); rintro e w' ⟨rfl, ⟨nd, rfl⟩⟩; (try first | exact ⟨rfl, _, World.drewN_drewN _ _ _⟩ | exact ⟨rfl, _, Eq.trans (World.drewN_drewN _ _ _) (congrArg (World.drewN _) (Nat.add_assoc _ _ _))⟩)) | (go_at_call 76; (with_reducible refine (pannierref04_text.calls k a0 a1 t147 t148 t149 t150 t151 _ A36.out).mono ?_); rintro e w38 ⟨rfl, hb⟩; have n0_ := Aside0.mk (blk_below (g := gb135) (o := .cells #[.int .i64 0, .int .i64 0, .string (⟨#[]⟩ : ByteArray), .int .i64 0] 50 (0, 0)) (zB BK135.out) hb); have n1_ := Aside0.mk (below_step (by repeat first | with_reducible exact HB.out | apply zS | refine below_set ?_ GE135.out | exact HB.out) hb); clear BK135; clear HB; have BK135 := n0_; have HB := n1_; clear n0_ n1_; (try clear hb); (try clear hb2); (try clear hk); (try clear hi); obtain ⟨hcz39_0, hcz39_1, hcz39_2, hcz39_3, hfz39_0, hfz39_1, hfz39_2, hfz39_3⟩ := zC4 BK135.out)); try go_wp2_with (first | ((with_reducible refine gate_dst (N := 4) rfl ?_); refine box_event ?hg (N := 4) ?hd (cs := #[.int .i64 0, .int .i64 0, .string (⟨#[]⟩ : ByteArray), .int .i64 0]) (t := 50) ?hr ?_; (case hd => rfl); (case hg => rfl); (case hr => first | (go_simp; done) | (go_simp; rfl)); intro gb135 hg w37 hbox hb; have n0_ := Aside0.mk (below_step (by repeat first | with_reducible exact HB.out | apply zS | exact HB.out) hb); have n1_ := Aside0.mk (hbox); have n2_ := Aside0.mk ((by rw [hg]; exact (below_size (by repeat first | with_reducible exact HB.out | apply zS | exact HB.out)) : w.heap.size ≤ gb135)); have n3_ := n2_; clear HB; have HB := n0_; have BK135 := n1_; have GW135 := n2_; have GE135 := n3_; clear n0_ n1_ n2_ n3_; clear hb hbox hg; have p5 : 0 ≤ (a1 : Int) := of_decide_eq_true (by first | (with_reducible assumption) | assumption); have q5 : a1 < (a0.size : Int) := of_decide_eq_true (by first | (with_reducible assumption) | assumption); have hx5 := bt_at a0 a1; replace p5 := eq_true p5; replace q5 := eq_true q5) | (go_at_call 73; (with_reducible refine (pannierref04_digit.calls (bt a0 a1) false _ A6.out).mono ?_); rintro e w' ⟨rfl, ⟨nd, rfl⟩⟩; (try first | exact ⟨rfl, _, World.drewN_drewN _ _ _⟩ | exact ⟨rfl, _, Eq.trans (World.drewN_drewN _ _ _) (congrArg (World.drewN _) (Nat.add_assoc _ _ _))⟩)) | (go_at_call 75; (with_reducible refine (pannierref04_letter.calls (bt a0 a1) false _ A12.out).mono ?_); rintro e w' ⟨rfl, ⟨nd, rfl⟩⟩; (try first | exact ⟨rfl, _, World.drewN_drewN _ _ _⟩ | exact ⟨rfl, _, Eq.trans (World.drewN_drewN _ _ _) (congrArg (World.drewN _) (Nat.add_assoc _ _ _))⟩)) | (go_at_call 76; (with_reducible refine (pannierref04_text.calls k a0 a1 t147 t148 t149 t150 t151 _ A36.out).mono ?_); rintro e w38 ⟨rfl, hb⟩; have n0_ := Aside0.mk (blk_below (g := gb135) (o := .cells #[.int .i64 0, .int .i64 0, .string (⟨#[]⟩ : ByteArray), .int .i64 0] 50 (0, 0)) (zB BK135.out) hb); have n1_ := Aside0.mk (below_step (by repeat first | with_reducible exact HB.out | apply zS | refine below_set ?_ GE135.out | exact HB.out) hb); clear BK135; clear HB; have BK135 := n0_; have HB := n1_; clear n0_ n1_; (try clear hb); (try clear hb2); (try clear hk); (try clear hi); obtain ⟨hcz39_0, hcz39_1, hcz39_2, hcz39_3, hfz39_0, hfz39_1, hfz39_2, hfz39_3⟩ := zC4 BK135.out)))
            refine bodyPost_ret (results_ct rfl _ _ gb135 50 #[.int .i64 t147, .int .i64 t148, .string t149, .int .i64 t150] (0, 0) _ rfl (by (with_reducible repeat (first | refine blk_drewN ?_ _ | refine blk_drew ?_ | refine blk_alloc ?_ _)); refine blk_put (cs := #[.int .i64 t147, .int .i64 t148, .string t149, .int .i64 0]) ?_ 3 _ rfl; (with_reducible repeat (first | refine blk_drewN ?_ _ | refine blk_drew ?_ | refine blk_alloc ?_ _)); refine blk_put (cs := #[.int .i64 t147, .int .i64 t148, .string (⟨#[]⟩ : ByteArray), .int .i64 0]) ?_ 2 _ rfl; (with_reducible repeat (first | refine blk_drewN ?_ _ | refine blk_drew ?_ | refine blk_alloc ?_ _)); refine blk_put (cs := #[.int .i64 t147, .int .i64 0, .string (⟨#[]⟩ : ByteArray), .int .i64 0]) ?_ 1 _ rfl; (with_reducible repeat (first | refine blk_drewN ?_ _ | refine blk_drew ?_ | refine blk_alloc ?_ _)); refine blk_put (cs := #[.int .i64 0, .int .i64 0, .string (⟨#[]⟩ : ByteArray), .int .i64 0]) ?_ 0 _ rfl; (with_reducible repeat (first | refine blk_drewN ?_ _ | refine blk_drew ?_ | refine blk_alloc ?_ _)); exact BK135.out) Tryd.underlying50 rfl (by kernel_rfl)) rfl ?_
            exact ⟨by first | rfl | (simp [errW_none, errW_some] <;> rfl) | (simp [*, errW_none, errW_some] <;> rfl), by repeat first | with_reducible exact HB.out | apply zS | refine below_set ?_ GE135.out | exact HB.out⟩
          · rw [if_neg c35] at H
            have c35b0 : ((bt a0 a1) == 34) = false := beq_eq_false_iff_ne.mpr c35
            have c35b1 : ((bt a0 a1) != 34) = true := bne_iff_ne.mpr c35
            have H' := Aside0.mk H
            clear H
            go_enter Tryd.func50, Tryd.ntmps50
            go_wp2_with (first | ((with_reducible refine gate_dst (N := 4) rfl ?_); refine box_event ?hg (N := 4) ?hd (cs := #[.int .i64 0, .int .i64 0, .string (⟨#[]⟩ : ByteArray), .int .i64 0]) (t := 50) ?hr ?_; (case hd => rfl); (case hg => rfl); (case hr => first | (go_simp; done) | (go_simp; rfl)); intro gb135 hg w40 hbox hb; have n0_ := Aside0.mk (below_step (by repeat first | with_reducible exact HB.out | apply zS | exact HB.out) hb); have n1_ := Aside0.mk (hbox); have n2_ := Aside0.mk ((by rw [hg]; exact (below_size (by repeat first | with_reducible exact HB.out | apply zS | exact HB.out)) : w.heap.size ≤ gb135)); have n3_ := n2_; clear HB; have HB := n0_; have BK135 := n1_; have GW135 := n2_; have GE135 := n3_; clear n0_ n1_ n2_ n3_; clear hb hbox hg; have p5 : 0 ≤ (a1 : Int) := of_decide_eq_true (by first | (with_reducible assumption) | assumption); have q5 : a1 < (a0.size : Int) := of_decide_eq_true (by first | (with_reducible assumption) | assumption); have hx5 := bt_at a0 a1; replace p5 := eq_true p5; replace q5 := eq_true q5) | (go_at_call 73; (with_reducible refine (pannierref04_digit.calls (bt a0 a1) false _ A6.out).mono ?_); rintro e w' ⟨rfl, ⟨nd, rfl⟩⟩; (try first | exact ⟨rfl, _, World.drewN_drewN _ _ _⟩ | exact ⟨rfl, _, Eq.trans (World.drewN_drewN _ _ _) (congrArg (World.drewN _) (Nat.add_assoc _ _ _))⟩)) | (go_at_call 75; (with_reducible refine (pannierref04_letter.calls (bt a0 a1) false _ A12.out).mono ?_); rintro e w' ⟨rfl, ⟨nd, rfl⟩⟩; (try first | exact ⟨rfl, _, World.drewN_drewN _ _ _⟩ | exact ⟨rfl, _, Eq.trans (World.drewN_drewN _ _ _) (congrArg (World.drewN _) (Nat.add_assoc _ _ _))⟩)))
            repeat (go_quiet (first | ((with_reducible refine gate_dst (N := 4) rfl ?_); refine box_event ?hg (N := 4) ?hd (cs := #[.int .i64 0, .int .i64 0, .string (⟨#[]⟩ : ByteArray), .int .i64 0]) (t := 50) ?hr ?_; (case hd => rfl); (case hg => rfl); (case hr => first | (go_simp; done) | (go_simp; rfl)); intro gb135 hg w40 hbox hb; have n0_ := Aside0.mk (below_step (by repeat first | with_reducible exact HB.out | apply zS | exact HB.out) hb); have n1_ := Aside0.mk (hbox); have n2_ := Aside0.mk ((by rw [hg]; exact (below_size (by repeat first | with_reducible exact HB.out | apply zS | exact HB.out)) : w.heap.size ≤ gb135)); have n3_ := n2_; clear HB; have HB := n0_; have BK135 := n1_; have GW135 := n2_; have GE135 := n3_; clear n0_ n1_ n2_ n3_; clear hb hbox hg; have p5 : 0 ≤ (a1 : Int) := of_decide_eq_true (by first | (with_reducible assumption) | assumption); have q5 : a1 < (a0.size : Int) := of_decide_eq_true (by first | (with_reducible assumption) | assumption); have hx5 := bt_at a0 a1; replace p5 := eq_true p5; replace q5 := eq_true q5) | (go_at_call 73; (with_reducible refine (pannierref04_digit.calls (bt a0 a1) false _ A6.out).mono ?_); rintro e w' ⟨rfl, ⟨nd, rfl⟩⟩; (try first | exact ⟨rfl, _, World.drewN_drewN _ _ _⟩ | exact ⟨rfl, _, Eq.trans (World.drewN_drewN _ _ _) (congrArg (World.drewN _) (Nat.add_assoc _ _ _))⟩)) | (go_at_call 75; (with_reducible refine (pannierref04_letter.calls (bt a0 a1) false _ A12.out).mono ?_); rintro e w' ⟨rfl, ⟨nd, rfl⟩⟩; (try first | exact ⟨rfl, _, World.drewN_drewN _ _ _⟩ | exact ⟨rfl, _, Eq.trans (World.drewN_drewN _ _ _) (congrArg (World.drewN _) (Nat.add_assoc _ _ _))⟩))); try go_wp2_with (first | ((with_reducible refine gate_dst (N := 4) rfl ?_); refine box_event ?hg (N := 4) ?hd (cs := #[.int .i64 0, .int .i64 0, .string (⟨#[]⟩ : ByteArray), .int .i64 0]) (t := 50) ?hr ?_; (case hd => rfl); (case hg => rfl); (case hr => first | (go_simp; done) | (go_simp; rfl)); intro gb135 hg w40 hbox hb; have n0_ := Aside0.mk (below_step (by repeat first | with_reducible exact HB.out | apply zS | exact HB.out) hb); have n1_ := Aside0.mk (hbox); have n2_ := Aside0.mk ((by rw [hg]; exact (below_size (by repeat first | with_reducible exact HB.out | apply zS | exact HB.out)) : w.heap.size ≤ gb135)); have n3_ := n2_; clear HB; have HB := n0_; have BK135 := n1_; have GW135 := n2_; have GE135 := n3_; clear n0_ n1_ n2_ n3_; clear hb hbox hg; have p5 : 0 ≤ (a1 : Int) := of_decide_eq_true (by first | (with_reducible assumption) | assumption); have q5 : a1 < (a0.size : Int) := of_decide_eq_true (by first | (with_reducible assumption) | assumption); have hx5 := bt_at a0 a1; replace p5 := eq_true p5; replace q5 := eq_true q5) | (go_at_call 73; (with_reducible refine (pannierref04_digit.calls (bt a0 a1) false _ A6.out).mono ?_); rintro e w' ⟨rfl, ⟨nd, rfl⟩⟩; (try first | exact ⟨rfl, _, World.drewN_drewN _ _ _⟩ | exact ⟨rfl, _, Eq.trans (World.drewN_drewN _ _ _) (congrArg (World.drewN _) (Nat.add_assoc _ _ _))⟩)) | (go_at_call 75; (with_reducible refine (pannierref04_letter.calls (bt a0 a1) false _ A12.out).mono ?_); rintro e w' ⟨rfl, ⟨nd, rfl⟩⟩; (try first | exact ⟨rfl, _, World.drewN_drewN _ _ _⟩ | exact ⟨rfl, _, Eq.trans (World.drewN_drewN _ _ _) (congrArg (World.drewN _) (Nat.add_assoc _ _ _))⟩))))
            go_loopg [8] k (fun kq v8 w' => ∃ (x8_1 : Int) (x136000_1 : Int) (x136001_1 : Int) (x136002_1 : ByteArray) (x136003_1 : Int), v8 = .int .i64 x8_1 ∧ Aside0 (pannierref04_next.l1 kq a0 a1 x8_1 = some (r1, r2, r3, r4, r5)) ∧ Aside0 (kq ≤ k) ∧ Aside0 (w'.heap[gb135]? = some (.cells #[.int .i64 x136000_1, .int .i64 x136001_1, .string x136002_1, .int .i64 x136003_1] 50 (0, 0))) ∧ Aside0 (Below w.heap.size w w'))
            case atStart => exact ⟨(2), (0), (0), ((⟨#[]⟩ : ByteArray)), (0), (by first | rfl | (simp; done) | (simp [*]; done)), H', ⟨Nat.le_refl _⟩, ⟨by exact zB BK135.out⟩, ⟨by repeat first | with_reducible exact HB.out | apply zS | refine below_set ?_ GE135.out | exact HB.out⟩⟩
            case round =>
              clear H'
              try clear c1
              try clear p1
              try clear q1
              try clear hx1
              try clear c2
              try clear p2
              try clear q2
              try clear hx2
              try clear c3
              try clear c3b0
              try clear c4
              try clear c4b0
              try clear c5
              try clear p5
              try clear q5
              try clear hx5
              try clear p6
              try clear c7
              try clear c13
              try clear c15
              try clear c15b0
              try clear c16
              try clear c16b0
              try clear p17
              try clear q17
              try clear hx17
              try clear c19
              try clear p20
              try clear q20
              try clear hx20
              try clear c22
              try clear c23
              try clear c23b0
              try clear c23b1
              try clear c24
              try clear c24b0
              try clear c24b1
              try clear c25
              try clear c25b0
              try clear c25b1
              try clear c29
              try clear c29b0
              try clear c29b1
              try clear c30
              try clear c30b0
              try clear c30b1
              try clear c31
              try clear c31b0
              try clear c31b1
              try clear c35
              try clear c35b0
              try clear c35b1
              try clear hcz11_0
              try clear hcz11_1
              try clear hcz11_2
              try clear hcz11_3
              try clear hcz28_0
              try clear hcz28_1
              try clear hcz28_2
              try clear hcz28_3
              try clear hcz34_0
              try clear hcz34_1
              try clear hcz34_2
              try clear hcz34_3
              try clear hcz39_0
              try clear hcz39_1
              try clear hcz39_2
              try clear hcz39_3
              try clear hfz11_0
              try clear hfz11_1
              try clear hfz11_2
              try clear hfz11_3
              try clear hfz28_0
              try clear hfz28_1
              try clear hfz28_2
              try clear hfz28_3
              try clear hfz34_0
              try clear hfz34_1
              try clear hfz34_2
              try clear hfz34_3
              try clear hfz39_0
              try clear hfz39_1
              try clear hfz39_2
              try clear hfz39_3
              try clear p17
              try clear p2
              try clear p20
              try clear p5
              try clear q17
              try clear q20
              try clear q5
              obtain ⟨x8_1, x136000_1, x136001_1, x136002_1, x136003_1, rfl, HA, HK1, BK135, HB⟩ := hrel
              cases gk with
              | zero => exact absurd HA.out (by simp [pannierref04_next.l1])
              | succ k1 =>
                have H := HA.out
                clear HA
                simp only [pannierref04_next.l1] at H
                by_cases c41 : x8_1 ≥ 1
                · rw [if_pos c41] at H
                  have c41b0 : decide (1 ≤ x8_1) = true := decide_eq_true c41
                  clear c41
                  by_cases c42 : (wrap64 (a1 + x8_1)) > (a0.size : Int)
                  · rw [if_pos c42] at H
                    have c42b0 : decide ((a0.size : Int) < (wrap64 (a1 + x8_1))) = true := decide_eq_true c42
                    clear c42
                    have H' := Aside0.mk H
                    clear H
                    go_wp2
                    repeat (go_quiet (fail); try go_wp2)
                    go_roundg k1
                    case measure => have := HK1.out; omega
                    case rel => exact ⟨(wrap64 (x8_1 - 1)), (x136000_1), (x136001_1), (x136002_1), (x136003_1), (by first | rfl | (simp; done) | (simp [*]; done)), H', ⟨by have := HK1.out; omega⟩, ⟨by exact zB BK135.out⟩, ⟨by repeat first | with_reducible exact HB.out | apply zS | refine below_set ?_ GE135.out | exact HB.out⟩⟩
                  · rw [if_neg c42] at H
                    have c42b0 : decide ((a0.size : Int) < (wrap64 (a1 + x8_1))) = false := decide_eq_false c42
                    clear c42
                    replace H := Option.bind_eq_some_iff.mp H
                    obtain ⟨t152, A430, H⟩ := H
                    replace H : (pannierref04_next.l2 k1 a0 a1 x8_1 t152 0) = some (r1, r2, r3, r4, r5) := H
                    have A43 := Aside0.mk A430
                    clear A430
                    have H' := Aside0.mk H
                    clear H
                    go_wp2_with (first | (go_at_call 77; (with_reducible refine (pannierref04_signs.calls  t152 _ A43.out).mono ?_); rintro e w44 ⟨v153, rfl, ho0, hb⟩; have n0_ := Aside0.mk (Kd.R_lower ho0 (below_size (by repeat first | with_reducible exact HB.out | apply zS | refine below_set ?_ GE135.out | exact HB.out))); have n1_ := Aside0.mk (blk_below (g := gb135) (o := .cells #[.int .i64 x136000_1, .int .i64 x136001_1, .string x136002_1, .int .i64 x136003_1] 50 (0, 0)) (zB BK135.out) hb); have n2_ := Aside0.mk (below_step (by repeat first | with_reducible exact HB.out | apply zS | refine below_set ?_ GE135.out | exact HB.out) hb); clear BK135; clear HB; have HO154 := n0_; have BK135 := n1_; have HB := n2_; clear n0_ n1_ n2_; (try clear hb); (try clear hb2); (try clear hk); (try clear hi); (try clear ho0)))
                    repeat (go_quiet (first | (go_at_call 77; (with_reducible refine (pannierref04_signs.calls  t152 _ A43.out).mono ?_); rintro e w44 ⟨v153, rfl, ho0, hb⟩; have n0_ := Aside0.mk (Kd.R_lower ho0 (below_size (by repeat first | with_reducible exact HB.out | apply zS | refine below_set ?_ GE135.out | exact HB.out))); have n1_ := Aside0.mk (blk_below (g := gb135) (o := .cells #[.int .i64 x136000_1, .int .i64 x136001_1, .string x136002_1, .int .i64 x136003_1] 50 (0, 0)) (zB BK135.out) hb); have n2_ := Aside0.mk (below_step (by repeat first | with_reducible exact HB.out | apply zS | refine below_set ?_ GE135.out | exact HB.out) hb); clear BK135; clear HB; have HO154 := n0_; have BK135 := n1_; have HB := n2_; clear n0_ n1_ n2_; (try clear hb); (try clear hb2); (try clear hk); (try clear hi); (try clear ho0))); try go_wp2_with (first | (go_at_call 77; (with_reducible refine (pannierref04_signs.calls  t152 _ A43.out).mono ?_); rintro e w44 ⟨v153, rfl, ho0, hb⟩; have n0_ := Aside0.mk (Kd.R_lower ho0 (below_size (by repeat first | with_reducible exact HB.out | apply zS | refine below_set ?_ GE135.out | exact HB.out))); have n1_ := Aside0.mk (blk_below (g := gb135) (o := .cells #[.int .i64 x136000_1, .int .i64 x136001_1, .string x136002_1, .int .i64 x136003_1] 50 (0, 0)) (zB BK135.out) hb); have n2_ := Aside0.mk (below_step (by repeat first | with_reducible exact HB.out | apply zS | refine below_set ?_ GE135.out | exact HB.out) hb); clear BK135; clear HB; have HO154 := n0_; have BK135 := n1_; have HB := n2_; clear n0_ n1_ n2_; (try clear hb); (try clear hb2); (try clear hk); (try clear hi); (try clear ho0))))
                    go_loopg [10] k1 (fun kq v10 w' => ∃ (x10_2 : Int) (x136000_2 : Int) (x136001_2 : Int) (x136002_2 : ByteArray) (x136003_2 : Int), v10 = .int .i64 x10_2 ∧ Aside0 (pannierref04_next.l2 kq a0 a1 x8_1 t152 x10_2 = some (r1, r2, r3, r4, r5)) ∧ Aside0 (kq ≤ k1) ∧ Aside0 (Kd.R Kd.string 9 w' w.heap.size (fun _ => True) v153 t152) ∧ Aside0 (w'.heap[gb135]? = some (.cells #[.int .i64 x136000_2, .int .i64 x136001_2, .string x136002_2, .int .i64 x136003_2] 50 (0, 0))) ∧ Aside0 (Below w.heap.size w w'))
                    case atStart => exact ⟨(0), (x136000_1), (x136001_1), (x136002_1), (x136003_1), (by first | rfl | (simp; done) | (simp [*]; done)), H', ⟨Nat.le_refl _⟩, ⟨by (with_reducible repeat (first | apply Kd.R_alloc | apply Kd.R_drewN | apply Kd.R_drew)); exact HO154.out⟩, ⟨by exact zB BK135.out⟩, ⟨by repeat first | with_reducible exact HB.out | apply zS | refine below_set ?_ GE135.out | exact HB.out⟩⟩
                    case round =>
                      clear H'
                      try clear c1
                      try clear p1
                      try clear q1
                      try clear hx1
                      try clear c2
                      try clear p2
                      try clear q2
                      try clear hx2
                      try clear c3
                      try clear c3b0
                      try clear c4
                      try clear c4b0
                      try clear c5
                      try clear p5
                      try clear q5
                      try clear hx5
                      try clear p6
                      try clear c7
                      try clear c13
                      try clear c15
                      try clear c15b0
                      try clear c16
                      try clear c16b0
                      try clear p17
                      try clear q17
                      try clear hx17
                      try clear c19
                      try clear p20
                      try clear q20
                      try clear hx20
                      try clear c22
                      try clear c23
                      try clear c23b0
                      try clear c23b1
                      try clear c24
                      try clear c24b0
                      try clear c24b1
                      try clear c25
                      try clear c25b0
                      try clear c25b1
                      try clear c29
                      try clear c29b0
                      try clear c29b1
                      try clear c30
                      try clear c30b0
                      try clear c30b1
                      try clear c31
                      try clear c31b0
                      try clear c31b1
                      try clear c35
                      try clear c35b0
                      try clear c35b1
                      try clear c41
                      try clear c41b0
                      try clear c42
                      try clear c42b0
                      try clear hcz11_0
                      try clear hcz11_1
                      try clear hcz11_2
                      try clear hcz11_3
                      try clear hcz28_0
                      try clear hcz28_1
                      try clear hcz28_2
                      try clear hcz28_3
                      try clear hcz34_0
                      try clear hcz34_1
                      try clear hcz34_2
                      try clear hcz34_3
                      try clear hcz39_0
                      try clear hcz39_1
                      try clear hcz39_2
                      try clear hcz39_3
                      try clear hfz11_0
                      try clear hfz11_1
                      try clear hfz11_2
                      try clear hfz11_3
                      try clear hfz28_0
                      try clear hfz28_1
                      try clear hfz28_2
                      try clear hfz28_3
                      try clear hfz34_0
                      try clear hfz34_1
                      try clear hfz34_2
                      try clear hfz34_3
                      try clear hfz39_0
                      try clear hfz39_1
                      try clear hfz39_2
                      try clear hfz39_3
                      try clear p1
                      try clear p17
                      try clear p2
                      try clear p20
                      try clear p5
                      try clear p6
                      try clear q1
                      try clear q17
                      try clear q2
                      try clear q20
                      try clear q5
                      obtain ⟨x10_2, x136000_2, x136001_2, x136002_2, x136003_2, rfl, HA, HK2, HO_9, BK135, HB⟩ := hrel
                      cases gk with
                      | zero => exact absurd HA.out (by simp [pannierref04_next.l2])
                      | succ k2 =>
                        have H := HA.out
                        clear HA
                        simp only [pannierref04_next.l2] at H
                        by_cases c45 : x10_2 < (t152.length : Int)
                        · rw [if_pos c45] at H
                          have c45b0 : decide (x10_2 < (t152.length : Int)) = true := decide_eq_true c45
                          clear c45
                          by_cases c46 : 0 ≤ x10_2
                          · rw [if_pos c46] at H
                            have c46b0 : decide (0 ≤ x10_2) = true := decide_eq_true c46
                            clear c46
                            by_cases c47 : 0 ≤ a1
                            · rw [if_pos c47] at H
                              have c47b0 := eq_true c47
                              have c47b1 : decide (0 ≤ a1) = true := decide_eq_true c47
                              clear c47
                              by_cases c48 : a1 ≤ (wrap64 (a1 + x8_1))
                              · rw [if_pos c48] at H
                                have c48b0 := eq_true c48
                                have c48b1 : decide (a1 ≤ (wrap64 (a1 + x8_1))) = true := decide_eq_true c48
                                by_cases c49 : (wrap64 (a1 + x8_1)) ≤ (a0.size : Int)
                                · rw [if_pos c49] at H
                                  have c49b0 := eq_true c49
                                  have c49b1 : decide ((wrap64 (a1 + x8_1)) ≤ (a0.size : Int)) = true := decide_eq_true c49
                                  by_cases c50 : (rdOf ByteArray.empty t152 x10_2).toList = (a0.extract (a1 : Int).toNat ((wrap64 (a1 + x8_1)) : Int).toNat).toList
                                  · rw [if_pos c50] at H
                                    have c50b0 : ((rdOf ByteArray.empty t152 x10_2).toList == (a0.extract (a1 : Int).toNat ((wrap64 (a1 + x8_1)) : Int).toNat).toList) = true := beq_iff_eq.mpr c50
                                    have c50b1 : ((rdOf ByteArray.empty t152 x10_2).toList != (a0.extract (a1 : Int).toNat ((wrap64 (a1 + x8_1)) : Int).toNat).toList) = false := bne_eq_false_iff_eq.mpr c50
                                    clear c50
                                    simp only [Option.some.injEq, Prod.mk.injEq] at H
                                    obtain ⟨rfl, rfl, rfl, rfl, rfl⟩ := H
                                    obtain ⟨Ao51, co51, eo51⟩ := Kd.R_slice HO_9.out
                                    subst eo51
                                    have p155 : 0 ≤ (x10_2 : Int) := of_decide_eq_true (by first | (with_reducible assumption) | assumption)
                                    have q155 : x10_2 < (t152.length : Int) := of_decide_eq_true (by first | (with_reducible assumption) | assumption)
                                    obtain ⟨ad155, e155, hx155_0⟩ := Kd.at_string (Kd.R_reads' HO_9.out).2.2 x10_2 p155 q155
                                    cases e155
                                    replace p155 := eq_true p155
                                    replace q155 := eq_true q155
                                    have p156 : 0 ≤ (x10_2 : Int) := of_decide_eq_true (by first | (with_reducible assumption) | assumption)
                                    have q156 : x10_2 < (t152.length : Int) := of_decide_eq_true (by first | (with_reducible assumption) | assumption)
                                    obtain ⟨ad156, e156, hx156_0⟩ := Kd.at_string (Kd.R_reads' HO_9.out).2.2 x10_2 p156 q156
                                    obtain rfl : ad155 = ad156 := (by injection e156)
                                    replace p156 := eq_true p156
                                    replace q156 := eq_true q156
                                    have hcz52_0 : wr.cell? ⟨gb135, 0, none⟩ = some (.int .i64 x136000_2) := (blk_cell BK135.out 0).trans rfl
                                    have hcz52_1 : wr.cell? ⟨gb135, 1, none⟩ = some (.int .i64 x136001_2) := (blk_cell BK135.out 1).trans rfl
                                    have hcz52_2 : wr.cell? ⟨gb135, 2, none⟩ = some (.string x136002_2) := (blk_cell BK135.out 2).trans rfl
                                    have hcz52_3 : wr.cell? ⟨gb135, 3, none⟩ = some (.int .i64 x136003_2) := (blk_cell BK135.out 3).trans rfl
                                    have hfz52_0 := blk_frozen BK135.out 0
                                    have hfz52_1 := blk_frozen BK135.out 1
                                    have hfz52_2 := blk_frozen BK135.out 2
                                    have hfz52_3 := blk_frozen BK135.out 3
                                    go_wp2
                                    repeat (go_quiet (fail); try go_wp2)
                                    refine bodyPost_ret (results_ct rfl _ _ gb135 50 #[.int .i64 4, .int .i64 0, .string (rdOf ByteArray.empty t152 x10_2), .int .i64 a1] (0, 0) _ rfl (by (with_reducible repeat (first | refine blk_drewN ?_ _ | refine blk_drew ?_ | refine blk_alloc ?_ _)); refine blk_put (cs := #[.int .i64 4, .int .i64 0, .string (rdOf ByteArray.empty t152 x10_2), .int .i64 x136003_2]) ?_ 3 _ rfl; (with_reducible repeat (first | refine blk_drewN ?_ _ | refine blk_drew ?_ | refine blk_alloc ?_ _)); refine blk_put (cs := #[.int .i64 4, .int .i64 0, .string x136002_2, .int .i64 x136003_2]) ?_ 2 _ rfl; (with_reducible repeat (first | refine blk_drewN ?_ _ | refine blk_drew ?_ | refine blk_alloc ?_ _)); refine blk_put (cs := #[.int .i64 4, .int .i64 x136001_2, .string x136002_2, .int .i64 x136003_2]) ?_ 1 _ rfl; (with_reducible repeat (first | refine blk_drewN ?_ _ | refine blk_drew ?_ | refine blk_alloc ?_ _)); refine blk_put (cs := #[.int .i64 x136000_2, .int .i64 x136001_2, .string x136002_2, .int .i64 x136003_2]) ?_ 0 _ rfl; (with_reducible repeat (first | refine blk_drewN ?_ _ | refine blk_drew ?_ | refine blk_alloc ?_ _)); exact BK135.out) Tryd.underlying50 rfl (by kernel_rfl)) rfl ?_
                                    exact ⟨by first | rfl | (simp [errW_none, errW_some] <;> rfl) | (simp [*, errW_none, errW_some] <;> rfl), by repeat first | with_reducible exact HB.out | apply zS | refine below_set ?_ GE135.out | exact HB.out⟩
                                  · rw [if_neg c50] at H
                                    have c50b0 : ((rdOf ByteArray.empty t152 x10_2).toList == (a0.extract (a1 : Int).toNat ((wrap64 (a1 + x8_1)) : Int).toNat).toList) = false := beq_eq_false_iff_ne.mpr c50
                                    have c50b1 : ((rdOf ByteArray.empty t152 x10_2).toList != (a0.extract (a1 : Int).toNat ((wrap64 (a1 + x8_1)) : Int).toNat).toList) = true := bne_iff_ne.mpr c50
                                    have H' := Aside0.mk H
                                    clear H
                                    obtain ⟨Ao53, co53, eo53⟩ := Kd.R_slice HO_9.out
                                    subst eo53
                                    have p155 : 0 ≤ (x10_2 : Int) := of_decide_eq_true (by first | (with_reducible assumption) | assumption)
                                    have q155 : x10_2 < (t152.length : Int) := of_decide_eq_true (by first | (with_reducible assumption) | assumption)
                                    obtain ⟨ad155, e155, hx155_0⟩ := Kd.at_string (Kd.R_reads' HO_9.out).2.2 x10_2 p155 q155
                                    cases e155
                                    replace p155 := eq_true p155
                                    replace q155 := eq_true q155
                                    go_wp2
                                    repeat (go_quiet (fail); try go_wp2)
                                    go_roundg k2
                                    case measure => have := HK1.out; have := HK2.out; omega
                                    case rel => exact ⟨(wrap64 (x10_2 + 1)), (x136000_2), (x136001_2), (x136002_2), (x136003_2), (by first | rfl | (simp; done) | (simp [*]; done)), H', ⟨by have := HK1.out; have := HK2.out; omega⟩, ⟨by (with_reducible repeat (first | apply Kd.R_alloc | apply Kd.R_drewN | apply Kd.R_drew)); exact HO_9.out⟩, ⟨by exact zB BK135.out⟩, ⟨by repeat first | with_reducible exact HB.out | apply zS | refine below_set ?_ GE135.out | exact HB.out⟩⟩
                                · rw [if_neg c49] at H
                                  exact absurd H (by simp)
                              · rw [if_neg c48] at H
                                exact absurd H (by simp)
                            · rw [if_neg c47] at H
                              exact absurd H (by simp)
                          · rw [if_neg c46] at H
                            exact absurd H (by simp)
                        · rw [if_neg c45] at H
                          have c45b0 : decide (x10_2 < (t152.length : Int)) = false := decide_eq_false c45
                          clear c45
                          have H' := Aside0.mk H
                          clear H
                          obtain ⟨Ao54, co54, eo54⟩ := Kd.R_slice HO_9.out
                          subst eo54
                          go_wp2
                          repeat (go_quiet (fail); try go_wp2)
                          go_roundg k2
                          case measure => have := HK1.out; have := HK2.out; omega
                          case rel => exact ⟨(wrap64 (x8_1 - 1)), (x136000_2), (x136001_2), (x136002_2), (x136003_2), (by first | rfl | (simp; done) | (simp [*]; done)), H', ⟨by have := HK1.out; have := HK2.out; omega⟩, ⟨by exact zB BK135.out⟩, ⟨by repeat first | with_reducible exact HB.out | apply zS | refine below_set ?_ GE135.out | exact HB.out⟩⟩
                · rw [if_neg c41] at H
                  have c41b0 : decide (1 ≤ x8_1) = false := decide_eq_false c41
                  clear c41
                  simp only [Option.some.injEq, Prod.mk.injEq] at H
                  obtain ⟨rfl, rfl, rfl, rfl, rfl⟩ := H
                  have hcz55_0 : wr.cell? ⟨gb135, 0, none⟩ = some (.int .i64 x136000_1) := (blk_cell BK135.out 0).trans rfl
                  have hcz55_1 : wr.cell? ⟨gb135, 1, none⟩ = some (.int .i64 x136001_1) := (blk_cell BK135.out 1).trans rfl
                  have hcz55_2 : wr.cell? ⟨gb135, 2, none⟩ = some (.string x136002_1) := (blk_cell BK135.out 2).trans rfl
                  have hcz55_3 : wr.cell? ⟨gb135, 3, none⟩ = some (.int .i64 x136003_1) := (blk_cell BK135.out 3).trans rfl
                  have hfz55_0 := blk_frozen BK135.out 0
                  have hfz55_1 := blk_frozen BK135.out 1
                  have hfz55_2 := blk_frozen BK135.out 2
                  have hfz55_3 := blk_frozen BK135.out 3
                  go_wp2
                  repeat (go_quiet (fail); try go_wp2)
                  refine bodyPost_ret (results_ct rfl _ _ gb135 50 #[.int .i64 0, .int .i64 0, .string (⟨#[]⟩ : ByteArray), .int .i64 0] (0, 0) _ rfl (by (with_reducible repeat (first | refine blk_drewN ?_ _ | refine blk_drew ?_ | refine blk_alloc ?_ _)); refine blk_put (cs := #[.int .i64 0, .int .i64 0, .string (⟨#[]⟩ : ByteArray), .int .i64 x136003_1]) ?_ 3 _ rfl; (with_reducible repeat (first | refine blk_drewN ?_ _ | refine blk_drew ?_ | refine blk_alloc ?_ _)); refine blk_put (cs := #[.int .i64 0, .int .i64 0, .string x136002_1, .int .i64 x136003_1]) ?_ 2 _ rfl; (with_reducible repeat (first | refine blk_drewN ?_ _ | refine blk_drew ?_ | refine blk_alloc ?_ _)); refine blk_put (cs := #[.int .i64 0, .int .i64 x136001_1, .string x136002_1, .int .i64 x136003_1]) ?_ 1 _ rfl; (with_reducible repeat (first | refine blk_drewN ?_ _ | refine blk_drew ?_ | refine blk_alloc ?_ _)); refine blk_put (cs := #[.int .i64 x136000_1, .int .i64 x136001_1, .string x136002_1, .int .i64 x136003_1]) ?_ 0 _ rfl; (with_reducible repeat (first | refine blk_drewN ?_ _ | refine blk_drew ?_ | refine blk_alloc ?_ _)); exact BK135.out) Tryd.underlying50 rfl (by kernel_rfl)) rfl ?_
                  exact ⟨by first | rfl | (simp [errW_none, errW_some] <;> rfl) | (simp [*, errW_none, errW_some] <;> rfl), by repeat first | with_reducible exact HB.out | apply zS | refine below_set ?_ GE135.out | exact HB.out⟩
    · rw [if_neg c4] at H
      exact absurd H (by simp)
  · rw [if_neg c3] at H
    exact absurd H (by simp)
end Go.Proofs.YtmdmpafdpgdpoaaDoor.P

namespace Go.Proofs.YtmdmpafdpgdpoaaDoor.P
open Go.RowKit Go.Proofs.YtmdmpafdpgdpoaaDoorW.PrintWords Go.Proofs.YtmdmpafdpgdpoaaDoorW.PrintLast Go.Proofs.YtmdmpafdpgdpoaaDoorW.PrintMore
attribute [local go_sem] max2_int min2_int max_two min_two max_three min_three max_four min_four   -- for this text's walks alone
set_option linter.unusedVariables false
set_option linter.unusedSimpArgs false
def pannierref04_Cut.l0 : Nat → ByteArray → List (S50) → Int → Option ((List (S50)) × Int × Int)
  | 0, _, _, _ => none
  | k + 1, x0, x5, x6 => if x6 < (x0.size : Int) then (if 0 ≤ x6 then (if (bt x0 x6) = 32 then (pannierref04_Cut.l0 k x0 x5 (wrap64 (x6 + 1))) else ((pannierref04_next.f k x0 x6).bind fun bt157 => (if bt157.2.2.2.2 = 0 then (some (([] : List (S50)), x6, 12)) else (if x5.length < 3518437208883 then (pannierref04_Cut.l0 k x0 (x5 ++ [(⟨bt157.1, bt157.2.1, bt157.2.2.1, bt157.2.2.2.1⟩ : S50)]) (wrap64 (x6 + bt157.2.2.2.2))) else (none))))) else (none)) else (some (x5, 0, 0))
def pannierref04_Cut.f (k : Nat) (a0 : ByteArray) : Option ((List (S50)) × Int × Int) := if (a0.size : Int) > 300 then (some (([] : List (S50)), 0, 2)) else (pannierref04_Cut.l0 k a0 ([] : List (S50)) 0)
set_option maxHeartbeats 8000000 in
set_option maxRecDepth 100000 in
theorem pannierref04_Cut.calls (k : Nat) (a0 : ByteArray) (r1 : List (S50)) (r2 : Int) (r3 : Int) (w : World) (h : pannierref04_Cut.f k a0 = some (r1, r2, r3)) :
    Calls Tryd.prog 21 #[.string a0] w fun e w' => ∃ v0_ : Value, e = .returned (.tuple #[v0_, .int .i64 r2, .int .i64 r3]) ∧ Kd.R k50 50 w' w.heap.size (fun _ => True) v0_ r1 ∧ Below w.heap.size w w' := by
  have hu50 := Tryd.underlying50
  have HB := Aside0.mk (Below.refl w.heap.size w)
  have H : (if (a0.size : Int) > 300 then (some (([] : List (S50)), 0, 2)) else (pannierref04_Cut.l0 k a0 ([] : List (S50)) 0)) = some (r1, r2, r3) := h
  clear h
  by_cases c2 : (a0.size : Int) > 300
  · rw [if_pos c2] at H
    have c2b0 : decide (300 < (a0.size : Int)) = true := decide_eq_true c2
    have c2b1 : decide (300 < a0.size) = true := decide_eq_true (by omega)
    clear c2
    simp only [Option.some.injEq, Prod.mk.injEq] at H
    obtain ⟨rfl, rfl, rfl⟩ := H
    go_enter Tryd.func21, Tryd.ntmps21
    go_wp2
    go_ret3
    exact ⟨_, by first | rfl | (simp [errW_none, errW_some] <;> rfl) | (simp [*, errW_none, errW_some] <;> rfl), by first | exact Kd.R_nil _ _ _ _ _ | exact Kd.N_nil _ _ _ _ _ | exact Kd.V_nil _ _ _ _ _ | exact Kd.Q_nil _ _ _ _ _ | exact Kd.S_nil _ _ _ _ _, by repeat first | with_reducible exact HB.out | apply zS | exact HB.out⟩
  · rw [if_neg c2] at H
    have c2b0 : decide (300 < (a0.size : Int)) = false := decide_eq_false c2
    have c2b1 : decide (300 < a0.size) = false := decide_eq_false (by omega)
    clear c2
    have H' := Aside0.mk H
    clear H
    go_enter Tryd.func21, Tryd.ntmps21
    go_wp2
    go_loopg [5, 6] k (fun kq v5 v6 w' => ∃ (x5_1 : List (S50)) (x6_1 : Int), v6 = .int .i64 x6_1 ∧ Aside0 (pannierref04_Cut.l0 kq a0 x5_1 x6_1 = some (r1, r2, r3)) ∧ Aside0 (kq ≤ k) ∧ Aside0 (Kd.R k50 50 w' w.heap.size (fun _ => True) v5 x5_1) ∧ Aside0 (Below w.heap.size w w'))
    case atStart => exact ⟨(([] : List (S50))), (0), (by first | rfl | (simp; done) | (simp [*]; done)), H', ⟨Nat.le_refl _⟩, ⟨by first | exact Kd.R_nil _ _ _ _ _ | exact Kd.N_nil _ _ _ _ _ | exact Kd.V_nil _ _ _ _ _ | exact Kd.Q_nil _ _ _ _ _ | exact Kd.S_nil _ _ _ _ _⟩, ⟨by repeat first | with_reducible exact HB.out | apply zS | exact HB.out⟩⟩
    case round =>
      clear H'
      try clear c2
      try clear c2b0
      try clear c2b1
      try clear p2
      obtain ⟨x5_1, x6_1, rfl, HA, HK1, HO_5, HB⟩ := hrel
      cases gk with
      | zero => exact absurd HA.out (by simp [pannierref04_Cut.l0])
      | succ k1 =>
        have H := HA.out
        clear HA
        simp only [pannierref04_Cut.l0] at H
        by_cases c3 : x6_1 < (a0.size : Int)
        · rw [if_pos c3] at H
          have c3b0 : decide (x6_1 < (a0.size : Int)) = true := decide_eq_true c3
          clear c3
          by_cases c4 : 0 ≤ x6_1
          · rw [if_pos c4] at H
            have c4b0 : decide (0 ≤ x6_1) = true := decide_eq_true c4
            clear c4
            by_cases c6 : (bt a0 x6_1) = 32
            · rw [if_pos c6] at H
              have c6b0 : ((bt a0 x6_1) == 32) = true := beq_iff_eq.mpr c6
              have c6b1 : ((bt a0 x6_1) != 32) = false := bne_eq_false_iff_eq.mpr c6
              clear c6
              have H' := Aside0.mk H
              clear H
              have p5 : 0 ≤ (x6_1 : Int) := of_decide_eq_true (by first | (with_reducible assumption) | assumption)
              have q5 : x6_1 < (a0.size : Int) := of_decide_eq_true (by first | (with_reducible assumption) | assumption)
              have hx5 := bt_at a0 x6_1
              replace p5 := eq_true p5
              replace q5 := eq_true q5
              go_wp2
              go_roundg k1
              case measure => have := HK1.out; omega
              case rel => exact ⟨(x5_1), (wrap64 (x6_1 + 1)), (by first | rfl | (simp; done) | (simp [*]; done)), H', ⟨by have := HK1.out; omega⟩, ⟨by (with_reducible repeat (first | apply Kd.R_alloc | apply Kd.R_drewN | apply Kd.R_drew)); exact HO_5.out⟩, ⟨by repeat first | with_reducible exact HB.out | apply zS | exact HB.out⟩⟩
            · rw [if_neg c6] at H
              have c6b0 : ((bt a0 x6_1) == 32) = false := beq_eq_false_iff_ne.mpr c6
              have c6b1 : ((bt a0 x6_1) != 32) = true := bne_iff_ne.mpr c6
              replace H := Option.bind_eq_some_iff.mp H
              obtain ⟨⟨t157, t158, t159, t160, t161⟩, A70, H⟩ := H
              replace H : (if t161 = 0 then (some (([] : List (S50)), x6_1, 12)) else (if x5_1.length < 3518437208883 then (pannierref04_Cut.l0 k1 a0 (x5_1 ++ [(⟨t157, t158, t159, t160⟩ : S50)]) (wrap64 (x6_1 + t161))) else (none))) = some (r1, r2, r3) := H
              have A7 := Aside0.mk A70
              clear A70
              by_cases c8 : t161 = 0
              · rw [if_pos c8] at H
                have c8b0 : (t161 == 0) = true := beq_iff_eq.mpr c8
                have c8b1 : (t161 != 0) = false := bne_eq_false_iff_eq.mpr c8
                clear c8
                simp only [Option.some.injEq, Prod.mk.injEq] at H
                obtain ⟨rfl, rfl, rfl⟩ := H
                have p5 : 0 ≤ (x6_1 : Int) := of_decide_eq_true (by first | (with_reducible assumption) | assumption)
                have q5 : x6_1 < (a0.size : Int) := of_decide_eq_true (by first | (with_reducible assumption) | assumption)
                have hx5 := bt_at a0 x6_1
                replace p5 := eq_true p5
                replace q5 := eq_true q5
                go_wp2_with (first | ((with_reducible refine gate_callee (f := 50) rfl ?_); refine goesL_ (some 25) rfl rfl Tryd.func50 (by kernel_rfl) rfl #[.string a0, .int .i64 x6_1] rfl (by (try simp only [List.map_toArray, List.map_cons, List.map_nil]); first | done | rfl | (simp only [List.length_drop, List.length_take]; rfl)) ?_; (with_reducible refine (pannierref04_next.calls k1 a0 x6_1 t157 t158 t159 t160 t161 _ A7.out).mono ?_); rintro e w9 ⟨rfl, hb⟩; refine ⟨_, rfl, ?_⟩; have n0_ := Aside0.mk (Kd.R_below (by (with_reducible repeat (first | apply Kd.R_alloc | apply Kd.R_drewN | apply Kd.R_drew)); exact HO_5.out) hb); have n1_ := Aside0.mk (below_step (by repeat first | with_reducible exact HB.out | apply zS | exact HB.out) hb); clear HO_5; clear HB; have HO_5 := n0_; have HB := n1_; clear n0_ n1_; (try clear hb); (try clear hb2); (try clear hk); (try clear hi)) | ((with_reducible refine gate_dst (N := 7) rfl ?_); refine box_event ?hg (N := 7) ?hd (cs := #[.int .i64 0, .int .i64 0, .string (⟨#[]⟩ : ByteArray), .int .i64 0]) (t := 50) ?hr ?_; (case hd => rfl); (case hg => rfl); (case hr => first | (go_simp; done) | (go_simp; rfl)); intro gb162 hg w10 hbox hb; have n0_ := Aside0.mk (Kd.R_below (Kd.R_elderB (by (with_reducible repeat (first | apply Kd.R_alloc | apply Kd.R_drewN | apply Kd.R_drew)); exact HO_5.out) gb162 (Nat.le_of_eq hg.symm)) hb); have n1_ := Aside0.mk (below_step (by repeat first | with_reducible exact HB.out | apply zS | exact HB.out) hb); have n2_ := Aside0.mk (hbox); have n3_ := Aside0.mk ((by rw [hg]; exact (below_size (by repeat first | with_reducible exact HB.out | apply zS | exact HB.out)) : w.heap.size ≤ gb162)); have n4_ := n3_; clear HO_5; clear HB; have HO_5 := n0_; have HB := n1_; have BK162 := n2_; have GW162 := n3_; have GE162 := n4_; clear n0_ n1_ n2_ n3_ n4_; clear hb hbox hg; obtain ⟨hcz11_0, hcz11_1, hcz11_2, hcz11_3, hfz11_0, hfz11_1, hfz11_2, hfz11_3⟩ := zC4 BK162.out))
                go_ret3
                exact ⟨_, by first | rfl | (simp [errW_none, errW_some] <;> rfl) | (simp [*, errW_none, errW_some] <;> rfl), by first | exact Kd.R_nil _ _ _ _ _ | exact Kd.N_nil _ _ _ _ _ | exact Kd.V_nil _ _ _ _ _ | exact Kd.Q_nil _ _ _ _ _ | exact Kd.S_nil _ _ _ _ _, by repeat first | with_reducible exact HB.out | apply zS | refine below_set ?_ GE162.out | exact HB.out⟩
              · rw [if_neg c8] at H
                have c8b0 : (t161 == 0) = false := beq_eq_false_iff_ne.mpr c8
                have c8b1 : (t161 != 0) = true := bne_iff_ne.mpr c8
                by_cases c12 : x5_1.length < 3518437208883
                · rw [if_pos c12] at H
                  have LMc12 := Aside0.mk c12
                  clear c12
                  obtain ⟨y163, hy163⟩ : ∃ y_ : List (S50), y_ = (x5_1 ++ [(⟨t157, t158, t159, t160⟩ : S50)]) := ⟨_, rfl⟩
                  replace H : (pannierref04_Cut.l0 k1 a0 y163 (wrap64 (x6_1 + t161))) = some (r1, r2, r3) := by first | (rw [hy163]; with_reducible exact H) | (have H2_ := (Option.bind_some _ _).symm.trans H; rw [hy163]; with_reducible exact H2_) | (have H2_ := (Option.bind_some _ _).symm.trans H; with_reducible exact H2_) | with_reducible exact H | (rw [hy163]; exact H) | exact H
                  have Ny163 := Aside0.mk hy163
                  clear hy163
                  have H' := Aside0.mk H
                  clear H
                  have p5 : 0 ≤ (x6_1 : Int) := of_decide_eq_true (by first | (with_reducible assumption) | assumption)
                  have q5 : x6_1 < (a0.size : Int) := of_decide_eq_true (by first | (with_reducible assumption) | assumption)
                  have hx5 := bt_at a0 x6_1
                  replace p5 := eq_true p5
                  replace q5 := eq_true q5
                  go_wp2_with (first | ((with_reducible refine gate_callee (f := 50) rfl ?_); refine goesL_ (some 25) rfl rfl Tryd.func50 (by kernel_rfl) rfl #[.string a0, .int .i64 x6_1] rfl (by (try simp only [List.map_toArray, List.map_cons, List.map_nil]); first | done | rfl | (simp only [List.length_drop, List.length_take]; rfl)) ?_; (with_reducible refine (pannierref04_next.calls k1 a0 x6_1 t157 t158 t159 t160 t161 _ A7.out).mono ?_); rintro e w13 ⟨rfl, hb⟩; refine ⟨_, rfl, ?_⟩; have n0_ := Aside0.mk (Kd.R_below (by (with_reducible repeat (first | apply Kd.R_alloc | apply Kd.R_drewN | apply Kd.R_drew)); exact HO_5.out) hb); have n1_ := Aside0.mk (below_step (by repeat first | with_reducible exact HB.out | apply zS | exact HB.out) hb); clear HO_5; clear HB; have HO_5 := n0_; have HB := n1_; clear n0_ n1_; (try clear hb); (try clear hb2); (try clear hk); (try clear hi)) | ((with_reducible refine gate_dst (N := 7) rfl ?_); refine box_event ?hg (N := 7) ?hd (cs := #[.int .i64 0, .int .i64 0, .string (⟨#[]⟩ : ByteArray), .int .i64 0]) (t := 50) ?hr ?_; (case hd => rfl); (case hg => rfl); (case hr => first | (go_simp; done) | (go_simp; rfl)); intro gb162 hg w14 hbox hb; have n0_ := Aside0.mk (Kd.R_below (Kd.R_elderB (by (with_reducible repeat (first | apply Kd.R_alloc | apply Kd.R_drewN | apply Kd.R_drew)); exact HO_5.out) gb162 (Nat.le_of_eq hg.symm)) hb); have n1_ := Aside0.mk (below_step (by repeat first | with_reducible exact HB.out | apply zS | exact HB.out) hb); have n2_ := Aside0.mk (hbox); have n3_ := Aside0.mk ((by rw [hg]; exact (below_size (by repeat first | with_reducible exact HB.out | apply zS | exact HB.out)) : w.heap.size ≤ gb162)); have n4_ := n3_; clear HO_5; clear HB; have HO_5 := n0_; have HB := n1_; have BK162 := n2_; have GW162 := n3_; have GE162 := n4_; clear n0_ n1_ n2_ n3_ n4_; clear hb hbox hg; obtain ⟨hcz15_0, hcz15_1, hcz15_2, hcz15_3, hfz15_0, hfz15_1, hfz15_2, hfz15_3⟩ := zC4 BK162.out) | ((with_reducible refine gate_builtin (b := .append) (xs := #[.tmp 31, .tmp 33]) rfl ?_); at_builtin; refine Kd.R_append k50 (w0 := w) w.heap.size rfl (.tmp 31) (.tmp 33) 40 50 (.agg #[(.int .i64 0), (.int .i64 0), (.string ⟨#[]⟩), (.int .i64 0)]) 40 rfl Tryd.underlying40 info50 rfl (by decide) (by omega) u5 x5_1 (⟨t157, t158, t159, t160⟩ : S50) [.int .i64 t157, .int .i64 t158, .string t159, .int .i64 t160] (fun k_ => k_ ≠ gb162) (fun _ => False) rfl (by first | (go_simp; done) | (go_simp; rfl)) ?aP (fun _ hk => hk.elim) ?aF ?aO ?aB ?aS ?aL ?_; (case aP => exact k50_mkM _ _ _ (⟨t157, t158, t159, t160⟩ : S50)); (case aB => exact (by repeat first | with_reducible exact HB.out | apply zS | refine below_set ?_ GE162.out | exact HB.out)); (case aF => exact (fun k_ hk => Kd.freshB (g := gb162) (o := .cells #[.int .i64 t157, .int .i64 t158, .string t159, .int .i64 t160] 50 (0, 0)) (by refine zB ?_; refine blk_put (cs := #[.int .i64 t157, .int .i64 t158, .string t159, .int .i64 0]) ?_ 3 _ rfl; refine zB ?_; refine blk_put (cs := #[.int .i64 t157, .int .i64 t158, .string (⟨#[]⟩ : ByteArray), .int .i64 0]) ?_ 2 _ rfl; refine zB ?_; refine blk_put (cs := #[.int .i64 t157, .int .i64 0, .string (⟨#[]⟩ : ByteArray), .int .i64 0]) ?_ 1 _ rfl; refine zB ?_; refine blk_put (cs := #[.int .i64 0, .int .i64 0, .string (⟨#[]⟩ : ByteArray), .int .i64 0]) ?_ 0 _ rfl; refine zB ?_; exact BK162.out) k_ hk)); (case aO => exact (by (with_reducible repeat (first | apply Kd.R_alloc | apply Kd.R_drewN | apply Kd.R_drew)); exact Kd.R_mono (Kd.R_far (p := ⟨gb162, 3, none⟩) (Kd.R_far (p := ⟨gb162, 2, none⟩) (Kd.R_far (p := ⟨gb162, 1, none⟩) (Kd.R_far (p := ⟨gb162, 0, none⟩) (Kd.R_mono HO_5.out (fun k_ hk => (⟨hk, hk.2⟩ : _ ∧ k_ ≠ gb162))) (fun _ hk => hk.2) (.int .i64 t157)) (fun _ hk => hk.2) (.int .i64 t158)) (fun _ hk => hk.2) (.string t159)) (fun _ hk => hk.2) (.int .i64 t160)) (fun _ hk => hk.1.2))); (case aS => exact (below_size (by repeat first | with_reducible exact HB.out | apply zS | refine below_set ?_ GE162.out | exact HB.out))); (case aL => have := LMc12.out; omega); intro v164 w16 ho hb hg hat; rw [← Ny163.out] at ho; have n0_ := Aside0.mk (blk_grown (g := gb162) (o := .cells #[.int .i64 t157, .int .i64 t158, .string t159, .int .i64 t160] 50 (0, 0)) (by refine zB ?_; refine blk_put (cs := #[.int .i64 t157, .int .i64 t158, .string t159, .int .i64 0]) ?_ 3 _ rfl; refine zB ?_; refine blk_put (cs := #[.int .i64 t157, .int .i64 t158, .string (⟨#[]⟩ : ByteArray), .int .i64 0]) ?_ 2 _ rfl; refine zB ?_; refine blk_put (cs := #[.int .i64 t157, .int .i64 0, .string (⟨#[]⟩ : ByteArray), .int .i64 0]) ?_ 1 _ rfl; refine zB ?_; refine blk_put (cs := #[.int .i64 0, .int .i64 0, .string (⟨#[]⟩ : ByteArray), .int .i64 0]) ?_ 0 _ rfl; refine zB ?_; exact BK162.out) hg (Kd.R_away HO_5.out (fun _ hk => hk.2))); have n1_ := Aside0.mk (hb); have n2_ := Aside0.mk (ho); clear BK162; clear HB; clear HO_5; have BK162 := n0_; have HB := n1_; have HO165 := n2_; clear n0_ n1_ n2_; clear ho hb hg hat))
                  go_roundg k1
                  case measure => have := HK1.out; omega
                  case rel => exact ⟨(y163), (wrap64 (x6_1 + t161)), (by first | rfl | (simp; done) | (simp [*]; done)), H', ⟨by have := HK1.out; omega⟩, ⟨by (with_reducible repeat (first | apply Kd.R_alloc | apply Kd.R_drewN | apply Kd.R_drew)); exact Kd.R_mono HO165.out (fun _ hk => trivial)⟩, ⟨by repeat first | with_reducible exact HB.out | apply zS | refine below_set ?_ GE162.out | exact HB.out⟩⟩
                · rw [if_neg c12] at H
                  exact absurd H (by simp)
          · rw [if_neg c4] at H
            exact absurd H (by simp)
        · rw [if_neg c3] at H
          have c3b0 : decide (x6_1 < (a0.size : Int)) = false := decide_eq_false c3
          clear c3
          simp only [Option.some.injEq, Prod.mk.injEq] at H
          obtain ⟨rfl, rfl, rfl⟩ := H
          go_wp2
          go_ret3
          exact ⟨_, by first | rfl | (simp [errW_none, errW_some] <;> rfl) | (simp [*, errW_none, errW_some] <;> rfl), by (with_reducible repeat (first | apply Kd.R_alloc | apply Kd.R_drewN | apply Kd.R_drew)); exact HO_5.out, by repeat first | with_reducible exact HB.out | apply zS | exact HB.out⟩
end Go.Proofs.YtmdmpafdpgdpoaaDoor.P

namespace Go.Proofs.YtmdmpafdpgdpoaaDoor.P
open Go.RowKit Go.Proofs.YtmdmpafdpgdpoaaDoorW.PrintWords Go.Proofs.YtmdmpafdpgdpoaaDoorW.PrintLast Go.Proofs.YtmdmpafdpgdpoaaDoorW.PrintMore
attribute [local go_sem] max2_int min2_int max_two min_two max_three min_three max_four min_four   -- for this text's walks alone
set_option linter.unusedVariables false
set_option linter.unusedSimpArgs false
def pannierkeep_Tokens.l0 : Nat → List (S50) → List (S50) → Int → Option (Bool)
  | 0, _, _, _ => none
  | k + 1, x0, x1, x5 => if x5 < (x0.length : Int) then (if 0 ≤ x5 then (if x5 < (x1.length : Int) then (if ((rd_T50 x0 x5).f0) = ((rd_T50 x1 x5).f0) then (if ((rd_T50 x0 x5).f1) = ((rd_T50 x1 x5).f1) then (if ((rd_T50 x0 x5).f2).toList = ((rd_T50 x1 x5).f2).toList then (if ((rd_T50 x0 x5).f3) = ((rd_T50 x1 x5).f3) then (pannierkeep_Tokens.l0 k x0 x1 (wrap64 (x5 + 1))) else (some false)) else (some false)) else (some false)) else (some false)) else (none)) else (none)) else (some true)
def pannierkeep_Tokens.f (k : Nat) (l0 : List (S50)) (l1 : List (S50)) : Option (Bool) := if (l0.length : Int) = (l1.length : Int) then (pannierkeep_Tokens.l0 k l0 l1 0) else (some false)
set_option maxHeartbeats 8000000 in
set_option maxRecDepth 100000 in
theorem pannierkeep_Tokens.calls (k : Nat) (A0 : Option Addr) (c0 : Nat) (l0 : List (S50)) (A1 : Option Addr) (c1 : Nat) (l1 : List (S50)) (r : Bool) (w : World) (hr0 : Kd.C k50 w A0 l0.length l0) (hc0 : l0.length ≤ c0) (hr1 : Kd.C k50 w A1 l1.length l1) (hc1 : l1.length ≤ c1) (h : pannierkeep_Tokens.f k l0 l1 = some r) :
    Calls Tryd.prog 22 #[.slice A0 l0.length c0, .slice A1 l1.length c1] w fun e w' => e = .returned (.bool r) ∧ Drawn0 w w' := by
  have HR0 := Aside0.mk hr0
  have HC0 := Aside0.mk hc0
  clear hr0 hc0
  have HR1 := Aside0.mk hr1
  have HC1 := Aside0.mk hc1
  clear hr1 hc1
  have H : (if (l0.length : Int) = (l1.length : Int) then (pannierkeep_Tokens.l0 k l0 l1 0) else (some false)) = some r := h
  clear h
  by_cases c3 : (l0.length : Int) = (l1.length : Int)
  · rw [if_pos c3] at H
    have c3b0 : ((l0.length : Int) == (l1.length : Int)) = true := beq_iff_eq.mpr c3
    have c3b1 : ((l0.length : Int) != (l1.length : Int)) = false := bne_eq_false_iff_eq.mpr c3
    have c3b2 : (l0.length == l1.length) = true := by first | simpa using c3 | (simp at c3 ⊢; omega)
    clear c3
    have H' := Aside0.mk H
    clear H
    go_enter Tryd.func22, Tryd.ntmps22
    go_wp2
    repeat (go_quiet (fail); try go_wp2)
    go_loopg [5] k (fun kq v5 w' => ∃ (x5_1 : Int), v5 = .int .i64 x5_1 ∧ Aside0 (pannierkeep_Tokens.l0 kq l0 l1 x5_1 = some r) ∧ Aside0 (kq ≤ k) ∧ Drawn0 w w')
    case atStart => exact ⟨(0), (by first | rfl | (simp; done) | (simp [*]; done)), H', ⟨Nat.le_refl _⟩, by repeat (first | exact Drawn0.refl _ | apply Drawn0.step)⟩
    case round =>
      clear H'
      try clear c1
      try clear c2
      try clear p2
      try clear c3
      try clear c3b0
      try clear c3b1
      try clear c3b2
      obtain ⟨x5_1, rfl, HA, HK1, ⟨m1, rfl⟩⟩ := hrel
      cases gk with
      | zero => exact absurd HA.out (by simp [pannierkeep_Tokens.l0])
      | succ k1 =>
        have H := HA.out
        clear HA
        simp only [pannierkeep_Tokens.l0] at H
        by_cases c4 : x5_1 < (l0.length : Int)
        · rw [if_pos c4] at H
          have c4b0 : decide (x5_1 < (l0.length : Int)) = true := decide_eq_true c4
          clear c4
          by_cases c5 : 0 ≤ x5_1
          · rw [if_pos c5] at H
            have c5b0 : decide (0 ≤ x5_1) = true := decide_eq_true c5
            clear c5
            by_cases c6 : x5_1 < (l1.length : Int)
            · rw [if_pos c6] at H
              have c6b0 : decide (x5_1 < (l1.length : Int)) = true := decide_eq_true c6
              clear c6
              by_cases c7 : ((rd_T50 l0 x5_1).f0) = ((rd_T50 l1 x5_1).f0)
              · rw [if_pos c7] at H
                have c7b0 : (((rd_T50 l0 x5_1).f0) == ((rd_T50 l1 x5_1).f0)) = true := beq_iff_eq.mpr c7
                have c7b1 : (((rd_T50 l0 x5_1).f0) != ((rd_T50 l1 x5_1).f0)) = false := bne_eq_false_iff_eq.mpr c7
                clear c7
                by_cases c8 : ((rd_T50 l0 x5_1).f1) = ((rd_T50 l1 x5_1).f1)
                · rw [if_pos c8] at H
                  have c8b0 : (((rd_T50 l0 x5_1).f1) == ((rd_T50 l1 x5_1).f1)) = true := beq_iff_eq.mpr c8
                  have c8b1 : (((rd_T50 l0 x5_1).f1) != ((rd_T50 l1 x5_1).f1)) = false := bne_eq_false_iff_eq.mpr c8
                  clear c8
                  by_cases c9 : ((rd_T50 l0 x5_1).f2).toList = ((rd_T50 l1 x5_1).f2).toList
                  · rw [if_pos c9] at H
                    have c9b0 : (((rd_T50 l0 x5_1).f2).toList == ((rd_T50 l1 x5_1).f2).toList) = true := beq_iff_eq.mpr c9
                    have c9b1 : (((rd_T50 l0 x5_1).f2).toList != ((rd_T50 l1 x5_1).f2).toList) = false := bne_eq_false_iff_eq.mpr c9
                    clear c9
                    by_cases c10 : ((rd_T50 l0 x5_1).f3) = ((rd_T50 l1 x5_1).f3)
                    · rw [if_pos c10] at H
                      have c10b0 : (((rd_T50 l0 x5_1).f3) == ((rd_T50 l1 x5_1).f3)) = true := beq_iff_eq.mpr c10
                      have c10b1 : (((rd_T50 l0 x5_1).f3) != ((rd_T50 l1 x5_1).f3)) = false := bne_eq_false_iff_eq.mpr c10
                      clear c10
                      have H' := Aside0.mk H
                      clear H
                      have p166 : 0 ≤ (x5_1 : Int) := of_decide_eq_true (by first | (with_reducible assumption) | assumption)
                      have q166 : x5_1 < (l0.length : Int) := of_decide_eq_true (by first | (with_reducible assumption) | assumption)
                      obtain ⟨ad166, e166, hx166_0, hx166_1, hx166_2, hx166_3⟩ := at_T50 HR0.out x5_1 p166 q166
                      cases e166
                      replace p166 := eq_true p166
                      replace q166 := eq_true q166
                      have p167 : 0 ≤ (x5_1 : Int) := of_decide_eq_true (by first | (with_reducible assumption) | assumption)
                      have q167 : x5_1 < (l1.length : Int) := of_decide_eq_true (by first | (with_reducible assumption) | assumption)
                      obtain ⟨ad167, e167, hx167_0, hx167_1, hx167_2, hx167_3⟩ := at_T50 HR1.out x5_1 p167 q167
                      cases e167
                      replace p167 := eq_true p167
                      replace q167 := eq_true q167
                      have p168 : 0 ≤ (x5_1 : Int) := of_decide_eq_true (by first | (with_reducible assumption) | assumption)
                      have q168 : x5_1 < (l0.length : Int) := of_decide_eq_true (by first | (with_reducible assumption) | assumption)
                      obtain ⟨ad168, e168, hx168_0, hx168_1, hx168_2, hx168_3⟩ := at_T50 HR0.out x5_1 p168 q168
                      obtain rfl : ad166 = ad168 := (by injection e168)
                      replace p168 := eq_true p168
                      replace q168 := eq_true q168
                      have p169 : 0 ≤ (x5_1 : Int) := of_decide_eq_true (by first | (with_reducible assumption) | assumption)
                      have q169 : x5_1 < (l1.length : Int) := of_decide_eq_true (by first | (with_reducible assumption) | assumption)
                      obtain ⟨ad169, e169, hx169_0, hx169_1, hx169_2, hx169_3⟩ := at_T50 HR1.out x5_1 p169 q169
                      obtain rfl : ad167 = ad169 := (by injection e169)
                      replace p169 := eq_true p169
                      replace q169 := eq_true q169
                      have p170 : 0 ≤ (x5_1 : Int) := of_decide_eq_true (by first | (with_reducible assumption) | assumption)
                      have q170 : x5_1 < (l0.length : Int) := of_decide_eq_true (by first | (with_reducible assumption) | assumption)
                      obtain ⟨ad170, e170, hx170_0, hx170_1, hx170_2, hx170_3⟩ := at_T50 HR0.out x5_1 p170 q170
                      obtain rfl : ad166 = ad170 := (by injection e170)
                      replace p170 := eq_true p170
                      replace q170 := eq_true q170
                      have p171 : 0 ≤ (x5_1 : Int) := of_decide_eq_true (by first | (with_reducible assumption) | assumption)
                      have q171 : x5_1 < (l1.length : Int) := of_decide_eq_true (by first | (with_reducible assumption) | assumption)
                      obtain ⟨ad171, e171, hx171_0, hx171_1, hx171_2, hx171_3⟩ := at_T50 HR1.out x5_1 p171 q171
                      obtain rfl : ad167 = ad171 := (by injection e171)
                      replace p171 := eq_true p171
                      replace q171 := eq_true q171
                      have p172 : 0 ≤ (x5_1 : Int) := of_decide_eq_true (by first | (with_reducible assumption) | assumption)
                      have q172 : x5_1 < (l0.length : Int) := of_decide_eq_true (by first | (with_reducible assumption) | assumption)
                      obtain ⟨ad172, e172, hx172_0, hx172_1, hx172_2, hx172_3⟩ := at_T50 HR0.out x5_1 p172 q172
                      obtain rfl : ad166 = ad172 := (by injection e172)
                      replace p172 := eq_true p172
                      replace q172 := eq_true q172
                      have p173 : 0 ≤ (x5_1 : Int) := of_decide_eq_true (by first | (with_reducible assumption) | assumption)
                      have q173 : x5_1 < (l1.length : Int) := of_decide_eq_true (by first | (with_reducible assumption) | assumption)
                      obtain ⟨ad173, e173, hx173_0, hx173_1, hx173_2, hx173_3⟩ := at_T50 HR1.out x5_1 p173 q173
                      obtain rfl : ad167 = ad173 := (by injection e173)
                      replace p173 := eq_true p173
                      replace q173 := eq_true q173
                      go_wp2
                      repeat (go_quiet (fail); try go_wp2)
                      go_roundg k1
                      case measure => have := HK1.out; omega
                      case rel => exact ⟨(wrap64 (x5_1 + 1)), (by first | rfl | (simp; done) | (simp [*]; done)), H', ⟨by have := HK1.out; omega⟩, by repeat (first | exact Drawn0.refl _ | apply Drawn0.step)⟩
                    · rw [if_neg c10] at H
                      have c10b0 : (((rd_T50 l0 x5_1).f3) == ((rd_T50 l1 x5_1).f3)) = false := beq_eq_false_iff_ne.mpr c10
                      have c10b1 : (((rd_T50 l0 x5_1).f3) != ((rd_T50 l1 x5_1).f3)) = true := bne_iff_ne.mpr c10
                      obtain rfl := Option.some.inj H
                      have p166 : 0 ≤ (x5_1 : Int) := of_decide_eq_true (by first | (with_reducible assumption) | assumption)
                      have q166 : x5_1 < (l0.length : Int) := of_decide_eq_true (by first | (with_reducible assumption) | assumption)
                      obtain ⟨ad166, e166, hx166_0, hx166_1, hx166_2, hx166_3⟩ := at_T50 HR0.out x5_1 p166 q166
                      cases e166
                      replace p166 := eq_true p166
                      replace q166 := eq_true q166
                      have p167 : 0 ≤ (x5_1 : Int) := of_decide_eq_true (by first | (with_reducible assumption) | assumption)
                      have q167 : x5_1 < (l1.length : Int) := of_decide_eq_true (by first | (with_reducible assumption) | assumption)
                      obtain ⟨ad167, e167, hx167_0, hx167_1, hx167_2, hx167_3⟩ := at_T50 HR1.out x5_1 p167 q167
                      cases e167
                      replace p167 := eq_true p167
                      replace q167 := eq_true q167
                      have p168 : 0 ≤ (x5_1 : Int) := of_decide_eq_true (by first | (with_reducible assumption) | assumption)
                      have q168 : x5_1 < (l0.length : Int) := of_decide_eq_true (by first | (with_reducible assumption) | assumption)
                      obtain ⟨ad168, e168, hx168_0, hx168_1, hx168_2, hx168_3⟩ := at_T50 HR0.out x5_1 p168 q168
                      obtain rfl : ad166 = ad168 := (by injection e168)
                      replace p168 := eq_true p168
                      replace q168 := eq_true q168
                      have p169 : 0 ≤ (x5_1 : Int) := of_decide_eq_true (by first | (with_reducible assumption) | assumption)
                      have q169 : x5_1 < (l1.length : Int) := of_decide_eq_true (by first | (with_reducible assumption) | assumption)
                      obtain ⟨ad169, e169, hx169_0, hx169_1, hx169_2, hx169_3⟩ := at_T50 HR1.out x5_1 p169 q169
                      obtain rfl : ad167 = ad169 := (by injection e169)
                      replace p169 := eq_true p169
                      replace q169 := eq_true q169
                      have p170 : 0 ≤ (x5_1 : Int) := of_decide_eq_true (by first | (with_reducible assumption) | assumption)
                      have q170 : x5_1 < (l0.length : Int) := of_decide_eq_true (by first | (with_reducible assumption) | assumption)
                      obtain ⟨ad170, e170, hx170_0, hx170_1, hx170_2, hx170_3⟩ := at_T50 HR0.out x5_1 p170 q170
                      obtain rfl : ad166 = ad170 := (by injection e170)
                      replace p170 := eq_true p170
                      replace q170 := eq_true q170
                      have p171 : 0 ≤ (x5_1 : Int) := of_decide_eq_true (by first | (with_reducible assumption) | assumption)
                      have q171 : x5_1 < (l1.length : Int) := of_decide_eq_true (by first | (with_reducible assumption) | assumption)
                      obtain ⟨ad171, e171, hx171_0, hx171_1, hx171_2, hx171_3⟩ := at_T50 HR1.out x5_1 p171 q171
                      obtain rfl : ad167 = ad171 := (by injection e171)
                      replace p171 := eq_true p171
                      replace q171 := eq_true q171
                      have p172 : 0 ≤ (x5_1 : Int) := of_decide_eq_true (by first | (with_reducible assumption) | assumption)
                      have q172 : x5_1 < (l0.length : Int) := of_decide_eq_true (by first | (with_reducible assumption) | assumption)
                      obtain ⟨ad172, e172, hx172_0, hx172_1, hx172_2, hx172_3⟩ := at_T50 HR0.out x5_1 p172 q172
                      obtain rfl : ad166 = ad172 := (by injection e172)
                      replace p172 := eq_true p172
                      replace q172 := eq_true q172
                      have p173 : 0 ≤ (x5_1 : Int) := of_decide_eq_true (by first | (with_reducible assumption) | assumption)
                      have q173 : x5_1 < (l1.length : Int) := of_decide_eq_true (by first | (with_reducible assumption) | assumption)
                      obtain ⟨ad173, e173, hx173_0, hx173_1, hx173_2, hx173_3⟩ := at_T50 HR1.out x5_1 p173 q173
                      obtain rfl : ad167 = ad173 := (by injection e173)
                      replace p173 := eq_true p173
                      replace q173 := eq_true q173
                      go_wp2
                      repeat (go_quiet (fail); try go_wp2)
                      go_ret
                      exact ⟨by first | rfl | (simp; done) | (simp [*]; done), by repeat (first | exact Drawn0.refl _ | apply Drawn0.step)⟩
                  · rw [if_neg c9] at H
                    have c9b0 : (((rd_T50 l0 x5_1).f2).toList == ((rd_T50 l1 x5_1).f2).toList) = false := beq_eq_false_iff_ne.mpr c9
                    have c9b1 : (((rd_T50 l0 x5_1).f2).toList != ((rd_T50 l1 x5_1).f2).toList) = true := bne_iff_ne.mpr c9
                    obtain rfl := Option.some.inj H
                    have p166 : 0 ≤ (x5_1 : Int) := of_decide_eq_true (by first | (with_reducible assumption) | assumption)
                    have q166 : x5_1 < (l0.length : Int) := of_decide_eq_true (by first | (with_reducible assumption) | assumption)
                    obtain ⟨ad166, e166, hx166_0, hx166_1, hx166_2, hx166_3⟩ := at_T50 HR0.out x5_1 p166 q166
                    cases e166
                    replace p166 := eq_true p166
                    replace q166 := eq_true q166
                    have p167 : 0 ≤ (x5_1 : Int) := of_decide_eq_true (by first | (with_reducible assumption) | assumption)
                    have q167 : x5_1 < (l1.length : Int) := of_decide_eq_true (by first | (with_reducible assumption) | assumption)
                    obtain ⟨ad167, e167, hx167_0, hx167_1, hx167_2, hx167_3⟩ := at_T50 HR1.out x5_1 p167 q167
                    cases e167
                    replace p167 := eq_true p167
                    replace q167 := eq_true q167
                    have p168 : 0 ≤ (x5_1 : Int) := of_decide_eq_true (by first | (with_reducible assumption) | assumption)
                    have q168 : x5_1 < (l0.length : Int) := of_decide_eq_true (by first | (with_reducible assumption) | assumption)
                    obtain ⟨ad168, e168, hx168_0, hx168_1, hx168_2, hx168_3⟩ := at_T50 HR0.out x5_1 p168 q168
                    obtain rfl : ad166 = ad168 := (by injection e168)
                    replace p168 := eq_true p168
                    replace q168 := eq_true q168
                    have p169 : 0 ≤ (x5_1 : Int) := of_decide_eq_true (by first | (with_reducible assumption) | assumption)
                    have q169 : x5_1 < (l1.length : Int) := of_decide_eq_true (by first | (with_reducible assumption) | assumption)
                    obtain ⟨ad169, e169, hx169_0, hx169_1, hx169_2, hx169_3⟩ := at_T50 HR1.out x5_1 p169 q169
                    obtain rfl : ad167 = ad169 := (by injection e169)
                    replace p169 := eq_true p169
                    replace q169 := eq_true q169
                    have p170 : 0 ≤ (x5_1 : Int) := of_decide_eq_true (by first | (with_reducible assumption) | assumption)
                    have q170 : x5_1 < (l0.length : Int) := of_decide_eq_true (by first | (with_reducible assumption) | assumption)
                    obtain ⟨ad170, e170, hx170_0, hx170_1, hx170_2, hx170_3⟩ := at_T50 HR0.out x5_1 p170 q170
                    obtain rfl : ad166 = ad170 := (by injection e170)
                    replace p170 := eq_true p170
                    replace q170 := eq_true q170
                    have p171 : 0 ≤ (x5_1 : Int) := of_decide_eq_true (by first | (with_reducible assumption) | assumption)
                    have q171 : x5_1 < (l1.length : Int) := of_decide_eq_true (by first | (with_reducible assumption) | assumption)
                    obtain ⟨ad171, e171, hx171_0, hx171_1, hx171_2, hx171_3⟩ := at_T50 HR1.out x5_1 p171 q171
                    obtain rfl : ad167 = ad171 := (by injection e171)
                    replace p171 := eq_true p171
                    replace q171 := eq_true q171
                    go_wp2
                    repeat (go_quiet (fail); try go_wp2)
                    go_ret
                    exact ⟨by first | rfl | (simp; done) | (simp [*]; done), by repeat (first | exact Drawn0.refl _ | apply Drawn0.step)⟩
                · rw [if_neg c8] at H
                  have c8b0 : (((rd_T50 l0 x5_1).f1) == ((rd_T50 l1 x5_1).f1)) = false := beq_eq_false_iff_ne.mpr c8
                  have c8b1 : (((rd_T50 l0 x5_1).f1) != ((rd_T50 l1 x5_1).f1)) = true := bne_iff_ne.mpr c8
                  obtain rfl := Option.some.inj H
                  have p166 : 0 ≤ (x5_1 : Int) := of_decide_eq_true (by first | (with_reducible assumption) | assumption)
                  have q166 : x5_1 < (l0.length : Int) := of_decide_eq_true (by first | (with_reducible assumption) | assumption)
                  obtain ⟨ad166, e166, hx166_0, hx166_1, hx166_2, hx166_3⟩ := at_T50 HR0.out x5_1 p166 q166
                  cases e166
                  replace p166 := eq_true p166
                  replace q166 := eq_true q166
                  have p167 : 0 ≤ (x5_1 : Int) := of_decide_eq_true (by first | (with_reducible assumption) | assumption)
                  have q167 : x5_1 < (l1.length : Int) := of_decide_eq_true (by first | (with_reducible assumption) | assumption)
                  obtain ⟨ad167, e167, hx167_0, hx167_1, hx167_2, hx167_3⟩ := at_T50 HR1.out x5_1 p167 q167
                  cases e167
                  replace p167 := eq_true p167
                  replace q167 := eq_true q167
                  have p168 : 0 ≤ (x5_1 : Int) := of_decide_eq_true (by first | (with_reducible assumption) | assumption)
                  have q168 : x5_1 < (l0.length : Int) := of_decide_eq_true (by first | (with_reducible assumption) | assumption)
                  obtain ⟨ad168, e168, hx168_0, hx168_1, hx168_2, hx168_3⟩ := at_T50 HR0.out x5_1 p168 q168
                  obtain rfl : ad166 = ad168 := (by injection e168)
                  replace p168 := eq_true p168
                  replace q168 := eq_true q168
                  have p169 : 0 ≤ (x5_1 : Int) := of_decide_eq_true (by first | (with_reducible assumption) | assumption)
                  have q169 : x5_1 < (l1.length : Int) := of_decide_eq_true (by first | (with_reducible assumption) | assumption)
                  obtain ⟨ad169, e169, hx169_0, hx169_1, hx169_2, hx169_3⟩ := at_T50 HR1.out x5_1 p169 q169
                  obtain rfl : ad167 = ad169 := (by injection e169)
                  replace p169 := eq_true p169
                  replace q169 := eq_true q169
                  go_wp2
                  repeat (go_quiet (fail); try go_wp2)
                  go_ret
                  exact ⟨by first | rfl | (simp; done) | (simp [*]; done), by repeat (first | exact Drawn0.refl _ | apply Drawn0.step)⟩
              · rw [if_neg c7] at H
                have c7b0 : (((rd_T50 l0 x5_1).f0) == ((rd_T50 l1 x5_1).f0)) = false := beq_eq_false_iff_ne.mpr c7
                have c7b1 : (((rd_T50 l0 x5_1).f0) != ((rd_T50 l1 x5_1).f0)) = true := bne_iff_ne.mpr c7
                obtain rfl := Option.some.inj H
                have p166 : 0 ≤ (x5_1 : Int) := of_decide_eq_true (by first | (with_reducible assumption) | assumption)
                have q166 : x5_1 < (l0.length : Int) := of_decide_eq_true (by first | (with_reducible assumption) | assumption)
                obtain ⟨ad166, e166, hx166_0, hx166_1, hx166_2, hx166_3⟩ := at_T50 HR0.out x5_1 p166 q166
                cases e166
                replace p166 := eq_true p166
                replace q166 := eq_true q166
                have p167 : 0 ≤ (x5_1 : Int) := of_decide_eq_true (by first | (with_reducible assumption) | assumption)
                have q167 : x5_1 < (l1.length : Int) := of_decide_eq_true (by first | (with_reducible assumption) | assumption)
                obtain ⟨ad167, e167, hx167_0, hx167_1, hx167_2, hx167_3⟩ := at_T50 HR1.out x5_1 p167 q167
                cases e167
                replace p167 := eq_true p167
                replace q167 := eq_true q167
                go_wp2
                repeat (go_quiet (fail); try go_wp2)
                go_ret
                exact ⟨by first | rfl | (simp; done) | (simp [*]; done), by repeat (first | exact Drawn0.refl _ | apply Drawn0.step)⟩
            · rw [if_neg c6] at H
              exact absurd H (by simp)
          · rw [if_neg c5] at H
            exact absurd H (by simp)
        · rw [if_neg c4] at H
          have c4b0 : decide (x5_1 < (l0.length : Int)) = false := decide_eq_false c4
          clear c4
          obtain rfl := Option.some.inj H
          go_wp2
          repeat (go_quiet (fail); try go_wp2)
          go_ret
          exact ⟨by first | rfl | (simp; done) | (simp [*]; done), by repeat (first | exact Drawn0.refl _ | apply Drawn0.step)⟩
  · rw [if_neg c3] at H
    have c3b0 : ((l0.length : Int) == (l1.length : Int)) = false := beq_eq_false_iff_ne.mpr c3
    have c3b1 : ((l0.length : Int) != (l1.length : Int)) = true := bne_iff_ne.mpr c3
    have c3b2 : (l0.length == l1.length) = false := by first | simpa using c3 | (simp at c3 ⊢; omega)
    obtain rfl := Option.some.inj H
    go_enter Tryd.func22, Tryd.ntmps22
    go_wp2
    repeat (go_quiet (fail); try go_wp2)
    go_ret
    exact ⟨by first | rfl | (simp; done) | (simp [*]; done), by repeat (first | exact Drawn0.refl _ | apply Drawn0.step)⟩
end Go.Proofs.YtmdmpafdpgdpoaaDoor.P

namespace Go.Proofs.YtmdmpafdpgdpoaaDoor.P
open Go.RowKit Go.Proofs.YtmdmpafdpgdpoaaDoorW.PrintWords Go.Proofs.YtmdmpafdpgdpoaaDoorW.PrintLast Go.Proofs.YtmdmpafdpgdpoaaDoorW.PrintMore
attribute [local go_sem] max2_int min2_int max_two min_two max_three min_three max_four min_four   -- for this text's walks alone
set_option linter.unusedVariables false
set_option linter.unusedSimpArgs false
def pannierlaw04_LexCuts.f (k : Nat) (a0 : ByteArray) : Option (Bool) := if (a0.size : Int) > 3000 then ((pannierlaw04_wakes.f k).bind fun t174 => (some t174)) else ((lex_Cut.f k a0).bind fun bt175 => ((pannierref04_Cut.f k a0).bind fun bt180 => ((pannierkeep_Tokens.f k bt175.1 bt180.1).bind fun t185 => (if t185 = true then (if bt175.2.1 = bt180.2.1 then (if bt175.2.2 = bt180.2.2 then ((pannierlaw04_wakes.f k).bind fun t186 => (some t186)) else (none)) else (none)) else (none)))))
set_option maxHeartbeats 8000000 in
set_option maxRecDepth 100000 in
theorem pannierlaw04_LexCuts.calls (k : Nat) (a0 : ByteArray) (r : Bool) (w : World) (hG : G3 w) (h : pannierlaw04_LexCuts.f k a0 = some r) :
    Calls Tryd.prog 7 #[.string a0] w fun e w' => e = .returned (.bool r) ∧ Below w.heap.size w w' := by
  have HB := Aside0.mk (Below.refl w.heap.size w)
  have H : (if (a0.size : Int) > 3000 then ((pannierlaw04_wakes.f k).bind fun t174 => (some t174)) else ((lex_Cut.f k a0).bind fun bt175 => ((pannierref04_Cut.f k a0).bind fun bt180 => ((pannierkeep_Tokens.f k bt175.1 bt180.1).bind fun t185 => (if t185 = true then (if bt175.2.1 = bt180.2.1 then (if bt175.2.2 = bt180.2.2 then ((pannierlaw04_wakes.f k).bind fun t186 => (some t186)) else (none)) else (none)) else (none)))))) = some r := h
  clear h
  by_cases c2 : (a0.size : Int) > 3000
  · rw [if_pos c2] at H
    have c2b0 : decide (3000 < (a0.size : Int)) = true := decide_eq_true c2
    have c2b1 : decide (3000 < a0.size) = true := decide_eq_true (by omega)
    clear c2
    replace H := Option.bind_eq_some_iff.mp H
    obtain ⟨t174, A30, H⟩ := H
    replace H : (some t174) = some r := H
    have A3 := Aside0.mk A30
    clear A30
    obtain rfl := Option.some.inj H
    go_enter Tryd.func7, Tryd.ntmps7
    go_wp2_with (first | ((with_reducible refine gate_callee (f := 19) rfl ?_); refine goesL_ (some 12) rfl rfl Tryd.func19 (by kernel_rfl) rfl #[] rfl (by (try simp only [List.map_toArray, List.map_cons, List.map_nil]); first | done | rfl | (simp only [List.length_drop, List.length_take]; rfl)) ?_; (with_reducible refine (pannierlaw04_wakes.calls k  t174 _ ?side1 A3.out).mono ?_); (case side1 => exact gl_3_3 (by repeat first | with_reducible exact HB.out | apply zS | exact HB.out) hG); rintro e w4 ⟨rfl, hb⟩; refine ⟨_, rfl, ?_⟩; have n0_ := Aside0.mk (below_step (by repeat first | with_reducible exact HB.out | apply zS | exact HB.out) hb); clear HB; have HB := n0_; clear n0_; (try clear hb); (try clear hb2); (try clear hk); (try clear hi)))
    go_ret
    exact ⟨by first | rfl | (simp [errW_none, errW_some] <;> rfl) | (simp [*, errW_none, errW_some] <;> rfl), by repeat first | with_reducible exact HB.out | apply zS | exact HB.out⟩
  · rw [if_neg c2] at H
    have c2b0 : decide (3000 < (a0.size : Int)) = false := decide_eq_false c2
    have c2b1 : decide (3000 < a0.size) = false := decide_eq_false (by omega)
    clear c2
    replace H := Option.bind_eq_some_iff.mp H
    obtain ⟨⟨t175, t176, t177⟩, A50, H⟩ := H
    replace H : ((pannierref04_Cut.f k a0).bind fun bt180 => ((pannierkeep_Tokens.f k t175 bt180.1).bind fun t185 => (if t185 = true then (if t176 = bt180.2.1 then (if t177 = bt180.2.2 then ((pannierlaw04_wakes.f k).bind fun t186 => (some t186)) else (none)) else (none)) else (none)))) = some r := H
    have A5 := Aside0.mk A50
    clear A50
    replace H := Option.bind_eq_some_iff.mp H
    obtain ⟨⟨t180, t181, t182⟩, A60, H⟩ := H
    replace H : ((pannierkeep_Tokens.f k t175 t180).bind fun t185 => (if t185 = true then (if t176 = t181 then (if t177 = t182 then ((pannierlaw04_wakes.f k).bind fun t186 => (some t186)) else (none)) else (none)) else (none))) = some r := H
    have A6 := Aside0.mk A60
    clear A60
    replace H := Option.bind_eq_some_iff.mp H
    obtain ⟨t185, A70, H⟩ := H
    replace H : (if t185 = true then (if t176 = t181 then (if t177 = t182 then ((pannierlaw04_wakes.f k).bind fun t186 => (some t186)) else (none)) else (none)) else (none)) = some r := H
    have A7 := Aside0.mk A70
    clear A70
    by_cases c8 : t185 = true
    · subst c8
      have H1 : (if t176 = t181 then (if t177 = t182 then ((pannierlaw04_wakes.f k).bind fun t186 => (some t186)) else (none)) else (none)) = some r := by rw [if_pos rfl] at H; exact H
      clear H
      have H := H1
      clear H1
      by_cases c9 : t176 = t181
      · rw [if_pos c9] at H
        have c9b0 : (t176 == t181) = true := beq_iff_eq.mpr c9
        have c9b1 : (t176 != t181) = false := bne_eq_false_iff_eq.mpr c9
        clear c9
        by_cases c10 : t177 = t182
        · rw [if_pos c10] at H
          have c10b0 : (t177 == t182) = true := beq_iff_eq.mpr c10
          have c10b1 : (t177 != t182) = false := bne_eq_false_iff_eq.mpr c10
          clear c10
          replace H := Option.bind_eq_some_iff.mp H
          obtain ⟨t186, A110, H⟩ := H
          replace H : (some t186) = some r := H
          have A11 := Aside0.mk A110
          clear A110
          obtain rfl := Option.some.inj H
          go_enter Tryd.func7, Tryd.ntmps7
          go_wp2_with (first | ((with_reducible refine gate_callee (f := 20) rfl ?_); refine goesL_ (some 15) rfl rfl Tryd.func20 (by kernel_rfl) rfl #[.string a0] rfl (by (try simp only [List.map_toArray, List.map_cons, List.map_nil]); first | done | rfl | (simp only [List.length_drop, List.length_take]; rfl)) ?_; (with_reducible refine (lex_Cut.calls k a0 t175 t176 t177 _ ?side1 A5.out).mono ?_); (case side1 => exact gl_3_2 (by repeat first | with_reducible exact HB.out | apply zS | exact HB.out) hG); rintro e w12 ⟨v178, rfl, ho0, hb⟩; refine ⟨_, rfl, ?_⟩; have n0_ := Aside0.mk (Kd.R_lower ho0 (below_size (by repeat first | with_reducible exact HB.out | apply zS | exact HB.out))); have n1_ := Aside0.mk (below_step (by repeat first | with_reducible exact HB.out | apply zS | exact HB.out) hb); clear HB; have HO179 := n0_; have HB := n1_; clear n0_ n1_; (try clear hb); (try clear hb2); (try clear hk); (try clear hi); (try clear ho0)) | ((with_reducible refine gate_callee (f := 21) rfl ?_); refine goesL_ (some 21) rfl rfl Tryd.func21 (by kernel_rfl) rfl #[.string a0] rfl (by (try simp only [List.map_toArray, List.map_cons, List.map_nil]); first | done | rfl | (simp only [List.length_drop, List.length_take]; rfl)) ?_; (with_reducible refine (pannierref04_Cut.calls k a0 t180 t181 t182 _ A6.out).mono ?_); rintro e w13 ⟨v183, rfl, ho0, hb⟩; refine ⟨_, rfl, ?_⟩; have n0_ := Aside0.mk (Kd.R_elder' (by (with_reducible repeat (first | apply Kd.R_alloc | apply Kd.R_drewN | apply Kd.R_drew)); exact HO179.out) (Kd.R_base ho0) hb); have n1_ := Aside0.mk (Kd.R_lower (Kd.R_new' ho0 (Kd.R_lt (by (with_reducible repeat (first | apply Kd.R_alloc | apply Kd.R_drewN | apply Kd.R_drew)); exact HO179.out))) (below_size (by repeat first | with_reducible exact HB.out | apply zS | exact HB.out))); have n2_ := Aside0.mk (below_step (by repeat first | with_reducible exact HB.out | apply zS | exact HB.out) hb); clear HO179; clear HB; have HO179 := n0_; have HO184 := n1_; have HB := n2_; clear n0_ n1_ n2_; (try clear hb); (try clear hb2); (try clear hk); (try clear hi); (try clear ho0); obtain ⟨Ao14, co14, eo14⟩ := Kd.R_slice HO179.out; subst eo14; obtain ⟨Ao15, co15, eo15⟩ := Kd.R_slice HO184.out; subst eo15) | ((with_reducible refine gate_callee (f := 22) rfl ?_); refine goesL_ (some 27) rfl rfl Tryd.func22 (by kernel_rfl) rfl #[.slice Ao14 t175.length co14, .slice Ao15 t180.length co15] rfl (by (try simp only [List.map_toArray, List.map_cons, List.map_nil]); first | done | rfl | (simp only [List.length_drop, List.length_take]; rfl)) ?_; (with_reducible refine (pannierkeep_Tokens.calls k _ _ t175 _ _ t180 true _ ?side1 ?side2 ?side3 ?side4 A7.out).mono ?_); (case side1 => repeat (first | exact (Kd.R_reads' HO179.out).2.2 | (with_reducible refine Kd.C_alloc ?_ _) | (with_reducible refine Kd.C_drewN ?_ _) | (with_reducible refine Kd.C_drew ?_))); (case side2 => exact (Kd.R_reads' HO179.out).2.1); (case side3 => repeat (first | exact (Kd.R_reads' HO184.out).2.2 | (with_reducible refine Kd.C_alloc ?_ _) | (with_reducible refine Kd.C_drewN ?_ _) | (with_reducible refine Kd.C_drew ?_))); (case side4 => exact (Kd.R_reads' HO184.out).2.1); rintro e w' ⟨rfl, ⟨nd, rfl⟩⟩; refine ⟨_, rfl, ?_⟩) | (go_at_call 19; (with_reducible refine (pannierlaw04_wakes.calls k  t186 _ ?side1 A11.out).mono ?_); (case side1 => exact gl_3_3 (by repeat first | with_reducible exact HB.out | apply zS | exact HB.out) hG); rintro e w16 ⟨rfl, hb⟩; have n0_ := Aside0.mk (Kd.R_below (by (with_reducible repeat (first | apply Kd.R_alloc | apply Kd.R_drewN | apply Kd.R_drew)); exact HO179.out) hb); have n1_ := Aside0.mk (Kd.R_below (by (with_reducible repeat (first | apply Kd.R_alloc | apply Kd.R_drewN | apply Kd.R_drew)); exact HO184.out) hb); have n2_ := Aside0.mk (below_step (by repeat first | with_reducible exact HB.out | apply zS | exact HB.out) hb); clear HO179; clear HO184; clear HB; have HO179 := n0_; have HO184 := n1_; have HB := n2_; clear n0_ n1_ n2_; (try clear hb); (try clear hb2); (try clear hk); (try clear hi)))
          go_ret
          exact ⟨by first | rfl | (simp [errW_none, errW_some] <;> rfl) | (simp [*, errW_none, errW_some] <;> rfl), by repeat first | with_reducible exact HB.out | apply zS | exact HB.out⟩
        · rw [if_neg c10] at H
          exact absurd H (by simp)
      · rw [if_neg c9] at H
        exact absurd H (by simp)
    · replace c8 := Bool.eq_false_iff.mpr c8
      subst c8
      have H1 : (none) = some r := by rw [if_neg (show ¬ (false = true) by decide)] at H; exact H
      clear H
      have H := H1
      clear H1
      exact absurd H (by simp)
end Go.Proofs.YtmdmpafdpgdpoaaDoor.P


namespace Go.Proofs.YtmdmpafdpgdpoaaDoor.P
open Go.RowKit Go.Proofs.YtmdmpafdpgdpoaaDoorW.PrintWords Go.Proofs.YtmdmpafdpgdpoaaDoorW.PrintLast Go.Proofs.YtmdmpafdpgdpoaaDoorW.PrintMore
open M (I64)
set_option linter.unusedVariables false
set_option linter.unusedSimpArgs false
theorem extract_one (s : ByteArray) (i : Nat) (h : i < s.size) : s.extract i (i + 1) = bs [s.data.toList[i]'(by simpa using h)] := by
  apply ByteArray.ext
  apply Array.toList_inj.1
  show (s.extract i (i + 1)).data.toList = _
  rw [ByteArray.data_extract, Array.toList_extract]
  have h' : i < s.data.toList.length := by simpa using h
  rw [List.extract_eq_take_drop]
  simp only [Nat.add_sub_cancel_left]
  rw [List.drop_eq_getElem_cons h']
  rfl
theorem byte_34 (b : UInt8) : ((b.toNat : Nat) : Int) = 34 ↔ b = 34 := by
  constructor
  · intro h; exact UInt8.toNat_inj.1 (show b.toNat = 34 by omega)
  · rintro rfl; rfl
end Go.Proofs.YtmdmpafdpgdpoaaDoor.P

namespace Go.Proofs.YtmdmpafdpgdpoaaDoor.P
open Go.RowKit Go.Proofs.YtmdmpafdpgdpoaaDoorW.PrintWords Go.Proofs.YtmdmpafdpgdpoaaDoorW.PrintLast Go.Proofs.YtmdmpafdpgdpoaaDoorW.PrintMore
open M (I64)
set_option linter.unusedVariables false
set_option linter.unusedSimpArgs false
theorem rest_size (s : ByteArray) (n : Nat) : (s.extract n s.size).size = s.size - n := by rw [ByteArray.size_extract]; omega
theorem rest_list (s : ByteArray) (n m : Nat) : (s.extract n m).data.toList = (s.data.toList.drop n).take (m - n) := by
  rw [ByteArray.data_extract, Array.toList_extract, List.extract_eq_take_drop]
theorem bu_rest (s : ByteArray) (n i : Nat) : bu (s.extract n s.size) i = bu s (n + i) := by
  unfold bu
  rw [rest_list, List.take_of_length_le (by simp)]
  simp [List.getD_eq_getElem?_getD, List.getElem?_drop]
theorem bt_rest (s : ByteArray) (n i : Nat) : bt (s.extract n s.size) (i : Int) = bt s ((n + i : Nat) : Int) := by rw [bt_bu, bt_bu, bu_rest]
theorem rest_part (s : ByteArray) (n m : Nat) : (s.extract n s.size).extract 0 m = s.extract n (min (n + m) s.size) := by
  apply ByteArray.ext
  apply Array.toList_inj.1
  rw [rest_list, rest_list, rest_list, List.drop_zero, List.take_take]
  congr 1; omega
theorem kind_digit_nat : ∀ c : Fin 256, pannierref04_digit.f (c.val : Int) = some (digP (kindOf (c.val : Int))) := by decide +kernel
theorem kind_letter_nat : ∀ c : Fin 256, pannierref04_letter.f (c.val : Int) = some (kindOf (c.val : Int) == 3) := by decide +kernel
theorem kind_blank_nat : ∀ c : Fin 256, (kindOf (c.val : Int) == 1) = ((c.val : Int) == 32) := by decide +kernel
theorem kind_quote_nat : ∀ c : Fin 256, (kindOf (c.val : Int) == 4) = ((c.val : Int) == 34) := by decide +kernel
theorem kind_range_nat : ∀ c : Fin 256, (kindOf (c.val : Int) == 2) = (decide (48 ≤ c.val) && decide (c.val ≤ 57)) := by decide +kernel
theorem kind_digit (s : ByteArray) (i : Nat) : pannierref04_digit.f (bt s (i : Int)) = some (digP (kindOf (bt s (i : Int)))) := by rw [bt_bu]; exact kind_digit_nat ⟨(bu s i).toNat, (bu s i).toNat_lt⟩
theorem kind_letter (s : ByteArray) (i : Nat) : pannierref04_letter.f (bt s (i : Int)) = some (kindOf (bt s (i : Int)) == 3) := by rw [bt_bu]; exact kind_letter_nat ⟨(bu s i).toNat, (bu s i).toNat_lt⟩
theorem kind_blank (s : ByteArray) (i : Nat) : kindOf (bt s (i : Int)) = 1 ↔ bt s (i : Int) = 32 := by
  rw [bt_bu]
  have := kind_blank_nat ⟨(bu s i).toNat, (bu s i).toNat_lt⟩
  rw [← beq_iff_eq, ← beq_iff_eq (b := (32 : Int))]
  exact Bool.eq_iff_iff.1 this
theorem kind_quote (s : ByteArray) (i : Nat) : kindOf (bt s (i : Int)) = 4 ↔ bt s (i : Int) = 34 := by
  rw [bt_bu]
  have := kind_quote_nat ⟨(bu s i).toNat, (bu s i).toNat_lt⟩
  rw [← beq_iff_eq, ← beq_iff_eq (b := (34 : Int))]
  exact Bool.eq_iff_iff.1 this
theorem run_rest (p : Int → Bool) (s : ByteArray) (n : Nat) (hn : n ≤ s.size) : ∀ d i, runN p (s.extract n s.size) d i + n = runN p s d (n + i)
  | 0, i => by unfold runN; omega
  | d + 1, i => by
    unfold runN
    rw [rest_size, bt_rest]
    by_cases h : n + i < s.size
    · rw [if_pos (by omega), if_pos h]
      by_cases hp : p (kindOf (bt s ((n + i : Nat) : Int))) = true
      · rw [if_pos hp, if_pos hp]; exact run_rest p s n hn d (i + 1)
      · rw [if_neg hp, if_neg hp]; omega
    · rw [if_neg (by omega), if_neg h]; omega
theorem wrap_up {i : Nat} (h : i ≤ 1000000000) : wrap64 ((i : Int) + 1) = ((i + 1 : Nat) : Int) := by rw [M.wrap64_id (by unfold I64; omega)]; omega
theorem wrap_less {i j : Nat} (hj : j ≤ i) (h : i ≤ 1000000000) : wrap64 ((i : Int) - (j : Int)) = ((i - j : Nat) : Int) := by rw [M.wrap64_id (by unfold I64; omega)]; omega
theorem name_end (s : ByteArray) (hs : s.size ≤ 1000000000) (n i : Nat) (hn : n ≤ i) (hi : i ≤ s.size) :
    (if 0 ≤ (n : Int) then (if (n : Int) ≤ (i : Int) then (if (i : Int) ≤ (s.size : Int) then ((pannierref04_Upper.f (s.extract ((n : Int)).toNat ((i : Int)).toNat)).bind fun t => (some ((3 : Int), (0 : Int), t, (n : Int), wrap64 ((i : Int) - (n : Int))))) else (none)) else (none)) else (none)) = some (3, 0, upS (s.extract n i), (n : Int), ((i - n : Nat) : Int)) := by
  rw [if_pos (by omega), if_pos (by omega), if_pos (by omega), wrap_less hn (by omega)]
  unfold pannierref04_Upper.f
  rw [if_pos (by rw [ByteArray.size_extract]; simp; omega)]
  rfl
theorem name_loop (s : ByteArray) (hs : s.size ≤ 1000000000) (n : Nat) : ∀ (d i k : Nat), n ≤ i → i + d = s.size → d < k → pannierref04_next.l0 k s (n : Int) (i : Int) = some (3, 0, upS (s.extract n (runN wordP s d i)), (n : Int), ((runN wordP s d i - n : Nat) : Int)) := by
  intro d
  induction d with
  | zero =>
    intro i k hn hi hk
    obtain ⟨k, rfl⟩ : ∃ m, k = m + 1 := ⟨k - 1, by omega⟩
    rw [pannierref04_next.l0, if_neg (by omega)]
    exact name_end s hs n i hn (by omega)
  | succ d ih =>
    intro i k hn hi hk
    obtain ⟨k, rfl⟩ : ∃ m, k = m + 1 := ⟨k - 1, by omega⟩
    rw [pannierref04_next.l0, if_pos (by omega), if_pos (by omega), kind_letter, Option.bind_some, kind_digit, Option.bind_some, wrap_up (by omega)]
    have hrec := ih (i + 1) k (by omega) (by omega) (by omega)
    have hr : runN wordP s (d + 1) i = if wordP (kindOf (bt s (i : Int))) = true then runN wordP s d (i + 1) else i := by rw [runN, if_pos (by omega)]
    rw [hr]
    unfold wordP digP at *
    generalize kindOf (bt s (i : Int)) = c at *
    by_cases h3 : (c == 3) = true
    · rw [if_pos h3, if_pos (by rw [h3, Bool.true_or]), hrec]
    · rw [if_neg h3]
      by_cases h2 : (c == 2) = true
      · rw [if_pos h2, if_pos (by rw [h2, Bool.or_true]), hrec]
      · have b3 : (c == 3) = false := by simpa using h3
        have b2 : (c == 2) = false := by simpa using h2
        rw [if_neg h2, b3, b2, Bool.or_false, if_neg (show ¬ ((false : Bool) = true) by decide)]
        exact name_end s hs n i hn (by omega)
def tokT (n : Nat) (t : ByteArray × Int) : Int × Int × ByteArray × Int × Int := if t.2 = 0 then (0, 0, ⟨#[]⟩, 0, 0) else (2, 0, t.1, (n : Int), t.2)
theorem bu_one (s : ByteArray) (i : Nat) (h : i < s.size) : s.extract i (i + 1) = bs [bu s i] := by
  rw [extract_one s i h]
  unfold bu
  rw [List.getD_eq_getElem?_getD, List.getElem?_eq_getElem (by simpa using h)]; rfl
theorem bu_34 (s : ByteArray) (i : Nat) : bt s (i : Int) = 34 ↔ bu s i = 34 := by rw [bt_bu]; exact byte_34 _
theorem text_loop (s : ByteArray) (hs : s.size ≤ 1000000000) (n : Nat) (hn : n < s.size) : ∀ (d i k : Nat) (out : List UInt8), s.size - n + 1 ≤ i + d → d < k → out.length ≤ i → i ≤ s.size - n + 1 → pannierref04_text.l0 k s (n : Int) (bs out) ((n + i : Nat) : Int) = some (tokT n (textF (s.extract n s.size) d i out)) := by
  intro d
  induction d with
  | zero =>
    intro i k out hi hk ho hb
    obtain ⟨k, rfl⟩ : ∃ m, k = m + 1 := ⟨k - 1, by omega⟩
    rw [pannierref04_text.l0, if_neg (by omega)]; rfl
  | succ d ih =>
    intro i k out hi hk ho hb
    obtain ⟨k, rfl⟩ : ∃ m, k = m + 1 := ⟨k - 1, by omega⟩
    rw [pannierref04_text.l0, textF, rest_size]
    by_cases hlt : n + i < s.size
    · have e1 : (⟨#[34]⟩ : ByteArray) = bs [34] := rfl
      rw [if_pos (by omega), if_pos (by omega), if_pos (show i < s.size - n by omega), wrap_up (by omega), bu_rest, bu_rest]
      by_cases hq : bu s (n + i) = 34
      · rw [if_pos ((bu_34 s _).2 hq), if_pos hq]
        by_cases hl : n + i + 1 < s.size
        · rw [if_pos (by omega), if_pos (by omega)]
          by_cases hq2 : bu s (n + i + 1) = 34
          · rw [if_pos ((bu_34 s _).2 hq2), if_neg (show ¬ (i + 1 = s.size - n ∨ ¬ bu s (n + (i + 1)) = 34) by rintro (h | h); omega; exact h hq2), if_pos (by rw [bs_size]; omega), e1, bs_append, wrap_up (by omega)]
            exact ih (i + 2) k _ (by omega) (by omega) (by simp; omega) (by omega)
          · rw [if_neg (fun h => hq2 ((bu_34 s _).1 h)), if_pos (show i + 1 = s.size - n ∨ ¬ bu s (n + (i + 1)) = 34 from .inr hq2), wrap_less (by omega) (by omega), show n + i + 1 - n = i + 1 by omega]
            unfold tokT
            rw [if_neg (by simp only; omega)]; try rfl
        · rw [if_neg (by omega), if_pos (show i + 1 = s.size - n ∨ ¬ bu s (n + (i + 1)) = 34 from .inl (by omega)), wrap_less (by omega) (by omega), show n + i + 1 - n = i + 1 by omega]
          unfold tokT
          rw [if_neg (by simp only; omega)]; try rfl
      · have hx : s.extract ((n + i : Nat) : Int).toNat ((n + i + 1 : Nat) : Int).toNat = bs [bu s (n + i)] := bu_one s (n + i) hlt
        rw [if_neg (fun h => hq ((bu_34 s _).1 h)), if_neg hq, if_pos (by omega), if_pos (by omega), hx, if_pos (by rw [bs_size, bs_size]; simp; omega), bs_append]
        exact ih (i + 1) k _ (by omega) (by omega) (by simp; omega) (by omega)
    · rw [if_neg (by omega), if_neg (show ¬ i < s.size - n by omega)]; rfl
end Go.Proofs.YtmdmpafdpgdpoaaDoor.P

namespace Go.Proofs.YtmdmpafdpgdpoaaDoor.P
open Go.RowKit Go.Proofs.YtmdmpafdpgdpoaaDoorW.PrintWords Go.Proofs.YtmdmpafdpgdpoaaDoorW.PrintLast Go.Proofs.YtmdmpafdpgdpoaaDoorW.PrintMore
open M (I64)
set_option linter.unusedVariables false
set_option linter.unusedSimpArgs false
def valL : List UInt8 → Nat → Nat
  | [], n => n
  | c :: r, n => valL r (n * 10 + (c.toNat - 48))
theorem valL_ge : ∀ (l : List UInt8) (n : Nat), n ≤ valL l n
  | [], n => Nat.le_refl _
  | c :: r, n => by unfold valL; have := valL_ge r (n * 10 + (c.toNat - 48)); omega
def isDig (c : UInt8) : Prop := 48 ≤ c.toNat ∧ c.toNat ≤ 57
theorem uintM_dig : ∀ (l : List UInt8) (n : Nat), (∀ c ∈ l, isDig c) → n ≤ 18446744073709551615 → Lib.parseUintM 18446744073709551615 n l = if valL l n ≤ 18446744073709551615 then .ok (valL l n) else .range
  | [], n, _, hn => by unfold Lib.parseUintM valL; rw [if_pos hn]
  | c :: r, n, hl, hn => by
    have hc : 48 ≤ c.toNat ∧ c.toNat ≤ 57 := hl c (by simp)
    have hge := valL_ge r (n * 10 + (c.toNat - 48))
    unfold Lib.parseUintM valL
    rw [if_pos hc]
    by_cases h1 : 1844674407370955162 ≤ n
    · rw [if_pos h1, if_neg (by omega)]
    · rw [if_neg h1]
      by_cases h2 : 18446744073709551615 < n * 10 + (c.toNat - 48)
      · rw [if_pos h2, if_neg (by omega)]
      · rw [if_neg h2]
        exact uintM_dig r _ (fun x hx => hl x (by simp [hx])) (by omega)
theorem pI_dig (s : ByteArray) (hl : ∀ c ∈ s.data.toList, isDig c) (hne : s.data.toList ≠ []) : pI s = if valL s.data.toList 0 < 9223372036854775808 then ((valL s.data.toList 0 : Int), true) else (0, false) := by
  unfold pI
  generalize s.data.toList = l at *
  cases l with
  | nil => exact absurd rfl hne
  | cons c r =>
    have hc : 48 ≤ c.toNat ∧ c.toNat ≤ 57 := hl c (by simp)
    have hu := uintM_dig (c :: r) 0 hl (by omega)
    rw [Lib.parseIntB_plain 64 c r (by omega) (by omega)]
    have he : Lib.parseUintB 64 (c :: r) = Lib.parseUintM 18446744073709551615 0 (c :: r) := by
      unfold Lib.parseUintB; rw [if_neg (by simp)]
    rw [he, hu]
    by_cases h1 : valL (c :: r) 0 ≤ 18446744073709551615
    · rw [if_pos h1]
      by_cases h2 : valL (c :: r) 0 < 9223372036854775808
      · rw [if_pos h2]
        have : Lib.signlessC (2 ^ (64 - 1)) (.ok (valL (c :: r) 0)) = .ok ((valL (c :: r) 0 : Nat) : Int) := by unfold Lib.signlessC; simp only []; rw [if_neg (by omega)]
        rw [this]
      · rw [if_neg h2]
        have : Lib.signlessC (2 ^ (64 - 1)) (.ok (valL (c :: r) 0)) = .range := by unfold Lib.signlessC; simp only []; rw [if_pos (by omega)]
        rw [this]
    · rw [if_neg h1, if_neg (by omega)]
      rfl
def bytesL (s : ByteArray) (i e : Nat) : List UInt8 := (s.data.toList.drop i).take (e - i)
theorem bytesL_nil (s : ByteArray) (i : Nat) : bytesL s i i = [] := by unfold bytesL; rw [Nat.sub_self, List.take_zero]
theorem bytesL_cons (s : ByteArray) (i e : Nat) (h : i < e) (he : e ≤ s.size) : bytesL s i e = bu s i :: bytesL s (i + 1) e := by
  have h' : i < s.data.toList.length := by rw [Array.length_toList]; exact Nat.lt_of_lt_of_le h he
  unfold bytesL bu
  rw [List.drop_eq_getElem_cons h', show e - i = (e - (i + 1)) + 1 by omega, List.take_succ_cons, List.getD_eq_getElem?_getD, List.getElem?_eq_getElem h']
  rfl
theorem dig_byte (s : ByteArray) (i : Nat) (h : digP (kindOf (bt s (i : Int))) = true) : isDig (bu s i) := by
  have := kind_range_nat ⟨(bu s i).toNat, (bu s i).toNat_lt⟩
  rw [bt_bu] at h
  unfold digP at h
  simp only [] at this
  rw [h] at this
  simp only [Bool.true_eq, Bool.and_eq_true, decide_eq_true_eq] at this
  exact this
theorem run_digs (s : ByteArray) : ∀ (d i : Nat), i ≤ s.size → ∀ c ∈ bytesL s i (runN digP s d i), isDig c
  | 0, i, hi, c, hc => by rw [runN, bytesL_nil] at hc; cases hc
  | d + 1, i, hi, c, hc => by
    rw [runN] at hc
    by_cases hlt : i < s.size
    · rw [if_pos hlt] at hc
      by_cases hp : digP (kindOf (bt s (i : Int))) = true
      · rw [if_pos hp] at hc
        have hle := runN_le digP s d (i + 1) (by omega)
        rw [bytesL_cons s i _ (by omega) hle.1] at hc
        rcases List.mem_cons.1 hc with rfl | hc
        · exact dig_byte s i hp
        · exact run_digs s d (i + 1) (by omega) c hc
      · rw [if_neg hp, bytesL_nil] at hc; cases hc
    · rw [if_neg hlt, bytesL_nil] at hc; cases hc
def numT (n e v : Nat) : Int × Int × ByteArray × Int × Int := if v < 9223372036854775808 then (1, (v : Int), ⟨#[]⟩, (n : Int), ((e - n : Nat) : Int)) else (0, 0, ⟨#[]⟩, 0, 0)
theorem number_loop (s : ByteArray) (hs : s.size ≤ 1000000000) (n : Nat) : ∀ (d i u k : Nat), n ≤ i → i + d = s.size → 2 * d + 1 < k → u < 9223372036854775808 →
    pannierref04_number.l0 k s (n : Int) (i : Int) (u : Int) = some (numT n (runN digP s d i) (valL (bytesL s i (runN digP s d i)) u)) := by
  intro d
  induction d with
  | zero =>
    intro i u k hn hi hk hu
    obtain ⟨k, rfl⟩ : ∃ m, k = m + 2 := ⟨k - 2, by omega⟩
    rw [pannierref04_number.l0, if_neg (by omega), pannierref04_number.j1, if_neg (by decide), runN, bytesL_nil, valL, wrap_less hn (by omega), M.wrap64_id (by unfold I64; omega)]
    unfold numT; rw [if_pos hu]
  | succ d ih =>
    intro i u k hn hi hk hu
    obtain ⟨k, rfl⟩ : ∃ m, k = m + 2 := ⟨k - 2, by omega⟩
    rw [pannierref04_number.l0, if_pos (by omega), if_pos (by omega), kind_digit, Option.bind_some, runN, if_pos (by omega)]
    by_cases hp : digP (kindOf (bt s (i : Int))) = true
    · have hdig := dig_byte s i hp
      have hle := runN_le digP s d (i + 1) (by omega)
      have hc : bt s (i : Int) = ((bu s i).toNat : Int) := bt_bu s i
      unfold isDig at hdig
      rw [hp, if_pos rfl, bytesL_cons s i _ (by omega) hle.1, valL, pannierref04_number.j1, if_pos rfl, if_pos (by omega), if_pos (by omega), hc, wrap_up (by omega)]
      generalize (bu s i).toNat = c at *
      have hd : (((c : Int) - 48) % 256) = ((c - 48 : Nat) : Int) := by omega
      rw [hd]
      by_cases hbig : (u : Int) > (9223372036854775807 - ((c - 48 : Nat) : Int)) / 10
      · rw [if_pos hbig]
        have hge := valL_ge (bytesL s (i + 1) (runN digP s d (i + 1))) (u * 10 + (c - 48))
        unfold numT; rw [if_neg (by omega)]
      · rw [if_neg hbig]
        have hw : IntKind.u64.wrap (IntKind.u64.wrap ((u : Int) * 10) + ((c - 48 : Nat) : Int)) = ((u * 10 + (c - 48) : Nat) : Int) := by
          have h1 : IntKind.u64.wrap ((u : Int) * 10) = (u : Int) * 10 := IntWalk.u64_in _ ⟨by omega, by omega⟩
          rw [h1, IntWalk.u64_in _ ⟨by omega, by omega⟩]; omega
        rw [hw]
        exact ih (i + 1) _ k (by omega) (by omega) (by omega) (by omega)
    · have hp' : digP (kindOf (bt s (i : Int))) = false := by simpa using hp
      rw [hp', if_neg (by decide), bytesL_nil, valL, pannierref04_number.j1, if_neg (by decide), wrap_less hn (by omega), M.wrap64_id (by unfold I64; omega)]
      unfold numT; rw [if_pos hu]
end Go.Proofs.YtmdmpafdpgdpoaaDoor.P

namespace Go.Proofs.YtmdmpafdpgdpoaaDoor.P
open Go.RowKit Go.Proofs.YtmdmpafdpgdpoaaDoorW.PrintWords Go.Proofs.YtmdmpafdpgdpoaaDoorW.PrintLast Go.Proofs.YtmdmpafdpgdpoaaDoorW.PrintMore
open M (I64)
set_option linter.unusedVariables false
set_option linter.unusedSimpArgs false
def signsL : List ByteArray := pannierref04_signs.f.getD []
theorem signs_some : pannierref04_signs.f = some signsL := rfl
def signB (l : List UInt8) : Bool := signsL.any fun x => x.toList == l
theorem rdOf_get (l : List ByteArray) (i : Nat) (h : i < l.length) : rdOf ByteArray.empty l (i : Int) = l[i] := by
  unfold rdOf; simp [List.getD_eq_getElem?_getD, h]
theorem sign_loop (s : ByteArray) (hs : s.size ≤ 1000000000) (n w : Nat) (hw : w ≤ 2) (hnw : n + w ≤ s.size) (K : Nat) (r : Int × Int × ByteArray × Int × Int)
    (hr : ∀ k, K ≤ k → pannierref04_next.l1 k s (n : Int) (wrap64 ((w : Int) - 1)) = some r) :
    ∀ (d i k : Nat), i + d = signsL.length → K + d < k → pannierref04_next.l2 k s (n : Int) (w : Int) signsL (i : Int) = some (if (signsL.drop i).any (fun x => x.toList == (s.extract n (n + w)).toList) = true then (4, 0, s.extract n (n + w), (n : Int), (w : Int)) else r) := by
  intro d
  induction d with
  | zero =>
    intro i k hi hk
    obtain ⟨k, rfl⟩ : ∃ m, k = m + 1 := ⟨k - 1, by omega⟩
    rw [pannierref04_next.l2, if_neg (by omega), hr k (by omega), List.drop_of_length_le (by omega)]
    rfl
  | succ d ih =>
    intro i k hi hk
    obtain ⟨k, rfl⟩ : ∃ m, k = m + 1 := ⟨k - 1, by omega⟩
    have hlt : i < signsL.length := by omega
    have hl17 : signsL.length = 17 := rfl
    have hw2 : wrap64 ((n : Int) + (w : Int)) = ((n + w : Nat) : Int) := by rw [M.wrap64_id (by unfold I64; omega)]; omega
    have hx : s.extract ((n : Int)).toNat (((n + w : Nat) : Int)).toNat = s.extract n (n + w) := rfl
    rw [pannierref04_next.l2, if_pos (by omega), if_pos (by omega), hw2, if_pos (by omega), if_pos (by omega), if_pos (by omega), rdOf_get _ _ hlt, hx, wrap_up (by omega), List.drop_eq_getElem_cons hlt, List.any_cons]
    by_cases he : signsL[i].toList = (s.extract n (n + w)).toList
    · have hb : (signsL[i].toList == (s.extract n (n + w)).toList) = true := by simpa using he
      have heq : signsL[i] = s.extract n (n + w) := by
        rw [ByteArray.toList_eq, ByteArray.toList_eq] at he
        exact ByteArray.ext (Array.toList_inj.1 he)
      rw [if_pos he, hb, Bool.true_or, if_pos rfl, heq]
    · have hb : (signsL[i].toList == (s.extract n (n + w)).toList) = false := by simpa using he
      rw [if_neg he, hb, Bool.false_or, ih (i + 1) k (by omega) (by omega)]
theorem sign_none (s : ByteArray) (n k : Nat) (hk : 1 ≤ k) : pannierref04_next.l1 k s (n : Int) 0 = some (0, 0, ⟨#[]⟩, 0, 0) := by
  obtain ⟨k, rfl⟩ : ∃ m, k = m + 1 := ⟨k - 1, by omega⟩
  rw [pannierref04_next.l1, if_neg (by decide)]
def signT (n w : Nat) (s : ByteArray) (r : Int × Int × ByteArray × Int × Int) : Int × Int × ByteArray × Int × Int :=
  if n + w ≤ s.size then (if signB (s.extract n (n + w)).toList = true then (4, 0, s.extract n (n + w), (n : Int), (w : Int)) else r) else r
theorem sign_step (s : ByteArray) (hs : s.size ≤ 1000000000) (n w : Nat) (hn : n < s.size) (h1 : 1 ≤ w) (hw : w ≤ 2) (K : Nat) (r : Int × Int × ByteArray × Int × Int)
    (hr : ∀ k, K ≤ k → pannierref04_next.l1 k s (n : Int) (wrap64 ((w : Int) - 1)) = some r) (k : Nat) (hk : K + 20 ≤ k) :
    pannierref04_next.l1 k s (n : Int) (w : Int) = some (signT n w s r) := by
  obtain ⟨k, rfl⟩ : ∃ m, k = m + 1 := ⟨k - 1, by omega⟩
  have hw2 : wrap64 ((n : Int) + (w : Int)) = ((n + w : Nat) : Int) := by rw [M.wrap64_id (by unfold I64; omega)]; omega
  rw [pannierref04_next.l1, if_pos (by omega), hw2]
  unfold signT
  by_cases h : n + w ≤ s.size
  · rw [if_neg (by omega), if_pos h, signs_some, Option.bind_some]
    have := sign_loop s hs n w hw h K r hr 17 0 k (by rfl) (by omega)
    exact this
  · rw [if_pos (by omega), if_neg h, hr k (by omega)]
theorem sign_eq (s : ByteArray) (hs : s.size ≤ 1000000000) (n : Nat) (hn : n < s.size) (k : Nat) (hk : 41 ≤ k) :
    pannierref04_next.l1 k s (n : Int) 2 = some (signT n 2 s (signT n 1 s (0, 0, ⟨#[]⟩, 0, 0))) := by
  have h0 : ∀ k, 1 ≤ k → pannierref04_next.l1 k s (n : Int) (wrap64 (((1 : Nat) : Int) - 1)) = some (0, 0, ⟨#[]⟩, 0, 0) := fun k hk => by
    have e : wrap64 (((1 : Nat) : Int) - 1) = 0 := by unfold wrap64; decide
    rw [e]; exact sign_none s n k hk
  have h1 : ∀ k, 21 ≤ k → pannierref04_next.l1 k s (n : Int) (wrap64 (((2 : Nat) : Int) - 1)) = some (signT n 1 s (0, 0, ⟨#[]⟩, 0, 0)) := fun k hk => by
    have e : wrap64 (((2 : Nat) : Int) - 1) = ((1 : Nat) : Int) := by unfold wrap64; decide
    rw [e]; exact sign_step s hs n 1 hn (by omega) (by omega) 1 _ h0 k (by omega)
  exact sign_step s hs n 2 hn (by omega) (by omega) 21 _ h1 k (by omega)
end Go.Proofs.YtmdmpafdpgdpoaaDoor.P

namespace Go.Proofs.YtmdmpafdpgdpoaaDoor.P
open Go.RowKit Go.Proofs.YtmdmpafdpgdpoaaDoorW.PrintWords Go.Proofs.YtmdmpafdpgdpoaaDoorW.PrintLast Go.Proofs.YtmdmpafdpgdpoaaDoorW.PrintMore
open M (I64)
set_option linter.unusedVariables false
set_option linter.unusedSimpArgs false
def signRows : List (List UInt8) := [[43], [45], [42], [47], [37], [94], [38], [61], [60], [62], [60, 62], [60, 61], [62, 61], [40], [41], [44], [58]]
theorem signB_rows (l : List UInt8) : signB l = signRows.any (fun x => x == l) := by
  unfold signB signsL pannierref04_signs.f
  simp only [Option.getD_some, List.any_cons, List.any_nil, ByteArray.toList_eq]
  rfl
theorem signB_one_nat : ∀ c : Fin 256, signRows.any (fun x => x == [UInt8.ofNat c.val]) = (kindOf (c.val : Int) == 5) := by decide +kernel
theorem signB_one (b : UInt8) : signB [b] = (kindOf ((b.toNat : Nat) : Int) == 5) := by
  have := signB_one_nat ⟨b.toNat, b.toNat_lt⟩
  simp only [UInt8.ofNat_toNat] at this
  rw [signB_rows, this]
theorem signB_two (a b : UInt8) : signB [a, b] = (decide ([a, b] = [60, 62]) || decide ([a, b] = [60, 61]) || decide ([a, b] = [62, 61])) := by
  rw [signB_rows]
  unfold signRows
  apply Bool.eq_iff_iff.2
  simp only [List.any_cons, List.any_nil, Bool.or_eq_true, beq_iff_eq, decide_eq_true_eq, List.cons.injEq, and_true, reduceCtorEq, and_false, false_or, or_false, Bool.false_eq_true]
  constructor
  · rintro (⟨h1, h2⟩ | ⟨h1, h2⟩ | ⟨h1, h2⟩) <;> subst h1 <;> subst h2 <;> simp
  · rintro ((⟨h1, h2⟩ | ⟨h1, h2⟩) | ⟨h1, h2⟩) <;> subst h1 <;> subst h2 <;> simp
theorem part_one (s : ByteArray) (n : Nat) (h : n < s.size) : (s.extract n (n + 1)).toList = [bu s n] := by rw [bu_one s n h, bs_toList]
theorem part_two (s : ByteArray) (n : Nat) (h : n + 2 ≤ s.size) : (s.extract n (n + 2)).toList = [bu s n, bu s (n + 1)] := by
  rw [ByteArray.toList_eq, rest_list, show n + 2 - n = 2 by omega]
  have e := bytesL_cons s n (n + 2) (by omega) h
  have e2 := bytesL_cons s (n + 1) (n + 2) (by omega) h
  unfold bytesL at e e2
  rw [show n + 2 - n = 2 by omega] at e
  rw [e, e2, show n + 2 - (n + 1 + 1) = 0 by omega, List.take_zero]
theorem kind_60 : kindOf (60 : Int) = 5 := by decide +kernel
theorem kind_62 : kindOf (62 : Int) = 5 := by decide +kernel
theorem sign_tok (s : ByteArray) (hs : s.size ≤ 1000000000) (n : Nat) (hn : n < s.size) (h2 : ¬ kindOf (bt s (n : Int)) = 2) (h4 : ¬ kindOf (bt s (n : Int)) = 4) (h3 : ¬ kindOf (bt s (n : Int)) = 3) :
    (signT n 2 s (signT n 1 s (0, 0, ⟨#[]⟩, 0, 0))).2.2.2.2 = (oneV (s.extract n s.size)).2.2.2.2 ∧ ((oneV (s.extract n s.size)).2.2.2.2 ≠ 0 → signT n 2 s (signT n 1 s (0, 0, ⟨#[]⟩, 0, 0)) = ((oneV (s.extract n s.size)).1, (oneV (s.extract n s.size)).2.1, (oneV (s.extract n s.size)).2.2.1, (n : Int), (oneV (s.extract n s.size)).2.2.2.2)) := by
  have hb : bt (s.extract n s.size) 0 = bt s (n : Int) := bt_rest s n 0
  have hk1 : signB (s.extract n (n + 1)).toList = (kindOf (bt s (n : Int)) == 5) := by rw [part_one s n hn, signB_one, bt_bu]
  unfold oneV
  rw [hb, if_neg h2, if_neg h4, if_neg h3]
  have hone : ∀ t, signT n 1 s t = if kindOf (bt s (n : Int)) = 5 then (4, 0, s.extract n (n + 1), (n : Int), 1) else t := by
    intro t
    unfold signT
    rw [if_pos (show n + 1 ≤ s.size by omega), hk1]
    by_cases h5 : kindOf (bt s (n : Int)) = 5
    · rw [if_pos (by simpa using h5), if_pos h5]; rfl
    · rw [if_neg (by simpa using h5), if_neg h5]
  rw [hone]
  have hx : ∀ m, n + m ≤ s.size → (s.extract n s.size).extract 0 m = s.extract n (n + m) := fun m hm => by rw [rest_part, Nat.min_eq_left hm]
  unfold signT
  by_cases hsz : n + 2 ≤ s.size
  · rw [if_pos hsz, part_two s n hsz, signB_two]
    have hsv : signsV (s.extract n s.size) = if (decide ([bu s n, bu s (n + 1)] = [60, 62]) || decide ([bu s n, bu s (n + 1)] = [60, 61]) || decide ([bu s n, bu s (n + 1)] = [62, 61])) = true then 2 else 1 := by
      unfold signsV
      rw [rest_size, if_pos (by omega), hx 2 hsz, part_two s n hsz]
      by_cases e1 : [bu s n, bu s (n + 1)] = ([60, 62] : List UInt8)
      · rw [if_pos e1, decide_eq_true e1]; rfl
      · rw [if_neg e1, decide_eq_false e1, Bool.false_or]
        by_cases e2 : [bu s n, bu s (n + 1)] = ([60, 61] : List UInt8)
        · rw [if_pos e2, decide_eq_true e2]; rfl
        · rw [if_neg e2, decide_eq_false e2, Bool.false_or]
          by_cases e3 : [bu s n, bu s (n + 1)] = ([62, 61] : List UInt8)
          · rw [if_pos e3, decide_eq_true e3]; rfl
          · rw [if_neg e3, decide_eq_false e3]; rfl
    rw [hsv]
    by_cases hm : (decide ([bu s n, bu s (n + 1)] = [60, 62]) || decide ([bu s n, bu s (n + 1)] = [60, 61]) || decide ([bu s n, bu s (n + 1)] = [62, 61])) = true
    · have h5 : kindOf (bt s (n : Int)) = 5 := by
        rw [bt_bu]
        simp only [Bool.or_eq_true, decide_eq_true_eq, List.cons.injEq, and_true] at hm
        rcases hm with (⟨h, _⟩ | ⟨h, _⟩) | ⟨h, _⟩ <;> rw [h]
        · exact kind_60
        · exact kind_60
        · exact kind_62
      rw [if_pos hm, if_pos h5, if_pos hm, hx 2 hsz]
      exact ⟨rfl, fun _ => rfl⟩
    · rw [if_neg hm, if_neg hm]
      by_cases h5 : kindOf (bt s (n : Int)) = 5
      · rw [if_pos h5, if_pos h5, hx 1 (by omega)]
        exact ⟨rfl, fun _ => rfl⟩
      · rw [if_neg h5, if_neg h5]
        exact ⟨rfl, fun h => absurd rfl h⟩
  · rw [if_neg hsz]
    have hsv : signsV (s.extract n s.size) = 1 := by unfold signsV; rw [rest_size, if_neg (by omega)]
    rw [hsv]
    by_cases h5 : kindOf (bt s (n : Int)) = 5
    · rw [if_pos h5, if_pos h5, hx 1 (by omega)]
      exact ⟨rfl, fun _ => rfl⟩
    · rw [if_neg h5, if_neg h5]
      exact ⟨rfl, fun h => absurd rfl h⟩
theorem next_eq (s : ByteArray) (hs : s.size ≤ 1000000000) (n : Nat) (hn : n < s.size) (k : Nat) (hk : 2 * s.size + 50 ≤ k) :
    ∃ r, pannierref04_next.f k s (n : Int) = some r ∧ r.2.2.2.2 = (oneV (s.extract n s.size)).2.2.2.2 ∧ ((oneV (s.extract n s.size)).2.2.2.2 ≠ 0 → r = ((oneV (s.extract n s.size)).1, (oneV (s.extract n s.size)).2.1, (oneV (s.extract n s.size)).2.2.1, (n : Int), (oneV (s.extract n s.size)).2.2.2.2)) := by
  have hb : bt (s.extract n s.size) 0 = bt s (n : Int) := bt_rest s n 0
  have hx : ∀ e, n ≤ e → e ≤ s.size → (s.extract n s.size).extract 0 (e - n) = s.extract n e := fun e h1 h2 => by rw [rest_part]; congr 1; omega
  unfold pannierref04_next.f
  rw [if_pos (by omega), if_pos (by omega), kind_digit, Option.bind_some]
  by_cases h2 : kindOf (bt s (n : Int)) = 2
  · have hp : digP (kindOf (bt s (n : Int))) = true := by unfold digP; simpa using h2
    have hle := runN_le digP s (s.size - n) n (by omega)
    have hrun : digN (s.extract n s.size) = runN digP s (s.size - n) n - n := by
      have := run_rest digP s n (by omega) (s.size - n) 0
      unfold digN; rw [rest_size]; rw [Nat.add_zero] at this; omega
    have hgt : n < runN digP s (s.size - n) n := by
      rw [show s.size - n = (s.size - n - 1) + 1 by omega, runN, if_pos hn, if_pos hp]
      have := runN_le digP s (s.size - n - 1) (n + 1) (by omega); omega
    rw [if_pos hp]
    unfold pannierref04_number.f
    have hnum := number_loop s hs n (s.size - n) n 0 k (by omega) (by omega) (by omega) (by omega)
    rw [show ((0 : Nat) : Int) = 0 from rfl] at hnum
    rw [hnum, Option.bind_some]
    have hdl : (s.extract n (runN digP s (s.size - n) n)).data.toList = bytesL s n (runN digP s (s.size - n) n) := rest_list s n _
    have hpi := pI_dig (s.extract n (runN digP s (s.size - n) n)) (by rw [hdl]; exact run_digs s _ n (by omega)) (by rw [hdl, bytesL_cons s n _ hgt hle.1]; simp)
    rw [hdl] at hpi
    refine ⟨_, rfl, ?_⟩
    unfold oneV
    rw [hb, if_pos h2, hrun, hx _ (by omega) hle.1, hpi]
    generalize valL (bytesL s n (runN digP s (s.size - n) n)) 0 = v
    unfold numT
    by_cases hv : v < 9223372036854775808
    · simp only [if_pos hv, if_true]
      exact ⟨trivial, fun _ => trivial⟩
    · simp only [if_neg hv, Bool.false_eq_true, if_false]
      exact ⟨trivial, fun h => absurd rfl h⟩
  · have hp : ¬ digP (kindOf (bt s (n : Int))) = true := by unfold digP; simpa using h2
    rw [if_neg hp, kind_letter, Option.bind_some]
    by_cases h3 : kindOf (bt s (n : Int)) = 3
    · have h4 : ¬ kindOf (bt s (n : Int)) = 4 := by omega
      have hle := runN_le wordP s (s.size - n) n (by omega)
      have hrun : wordN (s.extract n s.size) = runN wordP s (s.size - n) n - n := by
        have := run_rest wordP s n (by omega) (s.size - n) 0
        unfold wordN; rw [rest_size]; rw [Nat.add_zero] at this; omega
      rw [if_pos (by simpa using h3), name_loop s hs n (s.size - n) n k (by omega) (by omega) (by omega)]
      refine ⟨_, rfl, ?_⟩
      unfold oneV
      rw [hb, if_neg h2, if_neg h4, if_pos h3, hrun, hx _ (by omega) hle.1]
      exact ⟨rfl, fun _ => rfl⟩
    · rw [if_neg (by simpa using h3)]
      by_cases h4 : kindOf (bt s (n : Int)) = 4
      · have hq : bt s (n : Int) = 34 := (kind_quote s n).1 h4
        rw [if_pos hq]
        unfold pannierref04_text.f
        have ht := text_loop s hs n hn (s.size - n + 1) 1 k [] (by omega) (by omega) (by simp) (by omega)
        rw [wrap_up (by omega)]
        have ht' : pannierref04_text.l0 k s (n : Int) (⟨#[]⟩ : ByteArray) ((n + 1 : Nat) : Int) = _ := ht
        rw [ht', Option.bind_some]
        refine ⟨_, rfl, ?_⟩
        unfold oneV
        rw [hb, if_neg h2, if_pos h4, rest_size]
        unfold tokT
        by_cases hz : (textF (s.extract n s.size) (s.size - n + 1) 1 []).2 = 0
        · simp only [if_pos hz]
          exact ⟨hz.symm, fun h => absurd hz h⟩
        · simp only [if_neg hz]
          exact ⟨trivial, fun _ => trivial⟩
      · have hq : ¬ bt s (n : Int) = 34 := fun h => h4 ((kind_quote s n).2 h)
        rw [if_neg hq, sign_eq s hs n hn k (by omega)]
        obtain ⟨t1, t2⟩ := sign_tok s hs n hn h2 h4 h3
        exact ⟨_, rfl, t1, t2⟩
end Go.Proofs.YtmdmpafdpgdpoaaDoor.P

namespace Go.Proofs.YtmdmpafdpgdpoaaDoor.P
open Go.RowKit Go.Proofs.YtmdmpafdpgdpoaaDoorW.PrintWords Go.Proofs.YtmdmpafdpgdpoaaDoorW.PrintLast Go.Proofs.YtmdmpafdpgdpoaaDoorW.PrintMore
open M (I64)
set_option linter.unusedVariables false
set_option linter.unusedSimpArgs false
theorem kind_any (s : ByteArray) (i k : Nat) (hk : 20 ≤ k) : lex_kind.f k (bt s (i : Int)) = some (kindOf (bt s (i : Int))) := at_rounds (lex_kind.mono _) hk (kind_bt s i)
theorem textF_len (s : ByteArray) : ∀ (d i : Nat) (out : List UInt8), ∃ w : Nat, (textF s d i out).2 = (w : Int) ∧ w ≤ s.size
  | 0, i, out => ⟨0, rfl, Nat.zero_le _⟩
  | d + 1, i, out => by
    unfold textF
    split
    · split
      · split
        · exact ⟨i + 1, rfl, by omega⟩
        · exact textF_len s d (i + 2) _
      · exact textF_len s d (i + 1) _
    · exact ⟨0, rfl, Nat.zero_le _⟩
theorem oneV_len (s : ByteArray) (h : 0 < s.size) : ∃ w : Nat, (oneV s).2.2.2.2 = (w : Int) ∧ w ≤ s.size := by
  unfold oneV
  split
  · split
    · exact ⟨_, rfl, (runN_le digP s s.size 0 (by omega)).1⟩
    · exact ⟨0, rfl, Nat.zero_le _⟩
  · split
    · exact textF_len s _ _ _
    · split
      · exact ⟨_, rfl, (runN_le wordP s s.size 0 (by omega)).1⟩
      · split
        · exact ⟨_, rfl, (signs_le s h).2⟩
        · exact ⟨0, rfl, Nat.zero_le _⟩
theorem one_some (s : ByteArray) (n : Nat) (hs : s.size ≤ 1000000000) (hn : n < s.size) : lex_one.f (s.extract n s.size) = some (oneV (s.extract n s.size)) := by
  unfold lex_one.f; rw [if_pos (by rw [rest_size]; omega)]
theorem cut_loop (s : ByteArray) (hs : s.size ≤ 1000000) : ∀ (d n k kr : Nat) (l : List S50), s.size - n ≤ d → n ≤ s.size → d + 20 < k → 2 * s.size + 50 + d < kr → l.length ≤ n →
    ∃ R, lex_Cut.l0 k s l (n : Int) = some R ∧ pannierref04_Cut.l0 kr s l (n : Int) = some R := by
  intro d
  induction d with
  | zero =>
    intro n k kr l hd hn hk hkr hl
    obtain ⟨k, rfl⟩ : ∃ m, k = m + 1 := ⟨k - 1, by omega⟩
    obtain ⟨kr, rfl⟩ : ∃ m, kr = m + 1 := ⟨kr - 1, by omega⟩
    rw [lex_Cut.l0, pannierref04_Cut.l0, if_neg (by omega), if_neg (by omega)]
    exact ⟨_, rfl, rfl⟩
  | succ d ih =>
    intro n k kr l hd hn hk hkr hl
    obtain ⟨k, rfl⟩ : ∃ m, k = m + 1 := ⟨k - 1, by omega⟩
    obtain ⟨kr, rfl⟩ : ∃ m, kr = m + 1 := ⟨kr - 1, by omega⟩
    rw [lex_Cut.l0, pannierref04_Cut.l0]
    by_cases hlt : n < s.size
    · rw [if_pos (by omega), if_pos (by omega), if_pos (by omega), if_pos (by omega), kind_any s n k (by omega), Option.bind_some]
      by_cases hb : bt s (n : Int) = 32
      · rw [if_pos ((kind_blank s n).2 hb), if_pos hb, wrap_up (by omega)]
        exact ih (n + 1) k kr l (by omega) (by omega) (by omega) (by omega) (by omega)
      · rw [if_neg (fun h => hb ((kind_blank s n).1 h)), if_neg hb, if_pos (by omega)]
        have ho : lex_one.f (s.extract ((n : Int)).toNat s.size) = some (oneV (s.extract n s.size)) := one_some s n (by omega) hlt
        obtain ⟨r, hr, e1, e2⟩ := next_eq s (by omega) n hlt kr (by omega)
        obtain ⟨w, hw, hwl⟩ := oneV_len (s.extract n s.size) (by rw [rest_size]; omega)
        rw [rest_size] at hwl
        rw [ho, Option.bind_some, hr, Option.bind_some, e1]
        clear ho hr
        generalize oneV (s.extract n s.size) = t at *
        obtain ⟨ta, tb, tc, td, tm⟩ := t
        have hw' : tm = (w : Int) := hw
        subst hw'
        by_cases hz : (w : Int) = 0
        · rw [if_pos hz, if_pos hz]; exact ⟨_, rfl, rfl⟩
        · have er := e2 hz
          rw [if_neg hz, if_neg hz, if_pos (by omega), if_pos (by omega)]
          have hwp : w ≠ 0 := by omega
          subst er
          clear e1 e2 hw hz hb
          have hwr : wrap64 ((n : Int) + (w : Int)) = ((n + w : Nat) : Int) := by rw [M.wrap64_id (by unfold I64; omega)]; omega
          have b1 : s.size - (n + w) ≤ d := by omega
          have b2 : n + w ≤ s.size := by omega
          have b3 : (l ++ [(⟨ta, tb, tc, (n : Int)⟩ : S50)]).length ≤ n + w := by rw [List.length_append, List.length_singleton]; omega
          have := ih (n + w) k kr (l ++ [(⟨ta, tb, tc, (n : Int)⟩ : S50)]) b1 b2 (by omega) (by omega) b3
          rw [hwr]
          exact this
    · rw [if_neg (by omega), if_neg (by omega)]
      exact ⟨_, rfl, rfl⟩
theorem cut_eq (s : ByteArray) (k kr : Nat) (hk : 1000 ≤ k) (hkr : 2000 ≤ kr) : ∃ R, lex_Cut.f k s = some R ∧ pannierref04_Cut.f kr s = some R := by
  unfold lex_Cut.f pannierref04_Cut.f
  by_cases h : (s.size : Int) > 300
  · rw [if_pos h, if_pos h]; exact ⟨_, rfl, rfl⟩
  · rw [if_neg h, if_neg h]
    exact cut_loop s (by omega) s.size 0 k kr [] (by omega) (by omega) (by omega) (by omega) (by simp)
theorem keept_loop (l : List S50) (hl : l.length ≤ 1000000000) : ∀ (d i k : Nat), i + d = l.length → d < k → pannierkeep_Tokens.l0 k l l (i : Int) = some true := by
  intro d
  induction d with
  | zero =>
    intro i k hi hk
    obtain ⟨k, rfl⟩ : ∃ m, k = m + 1 := ⟨k - 1, by omega⟩
    rw [pannierkeep_Tokens.l0, if_neg (by omega)]
  | succ d ih =>
    intro i k hi hk
    obtain ⟨k, rfl⟩ : ∃ m, k = m + 1 := ⟨k - 1, by omega⟩
    rw [pannierkeep_Tokens.l0, if_pos (by omega), if_pos (by omega), if_pos (by omega), if_pos rfl, if_pos rfl, if_pos rfl, if_pos rfl, wrap_up (by omega), ih (i + 1) k (by omega) (by omega)]
theorem cut_short (s : ByteArray) (hs : s.size ≤ 1000000) : ∀ (d n k : Nat) (l : List S50) R, s.size - n ≤ d → l.length ≤ n → n ≤ s.size → lex_Cut.l0 k s l (n : Int) = some R → R.1.length ≤ s.size := by
  intro d
  induction d with
  | zero =>
    intro n k l R hd hl hn h
    cases k with
    | zero => simp [lex_Cut.l0] at h
    | succ k =>
      rw [lex_Cut.l0, if_neg (by omega)] at h
      injection h with h; subst h; simp only []; omega
  | succ d ih =>
    intro n k l R hd hl hn h
    cases k with
    | zero => simp [lex_Cut.l0] at h
    | succ k =>
      rw [lex_Cut.l0] at h
      by_cases hlt : n < s.size
      · rw [if_pos (by omega), if_pos (by omega)] at h
        obtain ⟨c, hc, h⟩ := Option.bind_eq_some_iff.1 h
        split at h
        · rw [wrap_up (by omega)] at h
          exact ih (n + 1) k l R (by omega) (by omega) (by omega) h
        · rw [if_pos (by omega)] at h
          have ho : lex_one.f (s.extract ((n : Int)).toNat s.size) = some (oneV (s.extract n s.size)) := one_some s n (by omega) hlt
          obtain ⟨w, hw, hwl⟩ := oneV_len (s.extract n s.size) (by rw [rest_size]; omega)
          rw [rest_size] at hwl
          rw [ho, Option.bind_some] at h
          split at h
          · injection h with h; subst h; simp
          · rename_i hz
            rw [if_pos (by omega), hw] at h
            have hwp : w ≠ 0 := by rintro rfl; exact hz (by rw [hw]; rfl)
            have hwr : wrap64 ((n : Int) + (w : Int)) = ((n + w : Nat) : Int) := by rw [M.wrap64_id (by unfold I64; omega)]; omega
            rw [hwr] at h
            exact ih (n + w) k _ R (by omega) (by simp; omega) (by omega) h
      · rw [if_neg (by omega)] at h
        injection h with h; subst h; simp only []; omega
theorem LexCuts_pure (a0 : ByteArray) (h0 : a0.size ≤ 140737488351232) : ∃ k, pannierlaw04_LexCuts.f k a0 = some true := by
  refine ⟨2000, ?_⟩
  unfold pannierlaw04_LexCuts.f
  by_cases hb : (a0.size : Int) > 3000
  · rw [if_pos hb, at_rounds pannierlaw04_wakes.mono (show 100 ≤ 2000 by omega) (by decide +kernel : pannierlaw04_wakes.f 100 = some true)]; rfl
  · obtain ⟨R, h1, h2⟩ := cut_eq a0 2000 2000 (by omega) (by omega)
    have hlen : R.1.length ≤ 300 := by
      have h3 := h1
      unfold lex_Cut.f at h3
      split at h3
      · injection h3 with h3; subst h3; simp
      · have := cut_short a0 (by omega) a0.size 0 2000 [] R (by omega) (by simp) (by omega) h3
        omega
    have ht : pannierkeep_Tokens.f 2000 R.1 R.1 = some true := by
      unfold pannierkeep_Tokens.f
      rw [if_pos rfl]
      exact keept_loop R.1 (by omega) R.1.length 0 2000 (by omega) (by omega)
    rw [if_neg hb, h1, Option.bind_some, h2, Option.bind_some, ht, Option.bind_some, if_pos rfl, if_pos rfl, if_pos rfl, at_rounds pannierlaw04_wakes.mono (show 100 ≤ 2000 by omega) (by decide +kernel : pannierlaw04_wakes.f 100 = some true)]; rfl
end Go.Proofs.YtmdmpafdpgdpoaaDoor.P
