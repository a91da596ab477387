/- Contracts of the functions that the law reaches, each with the plain function that it comes to, and plain facts about these. -/
import Derived.Deep.RegionWith
import Derived.Test.YtmdmpafdpgdpoaaDoorBFu1
namespace Go.Proofs.YtmdmpafdpgdpoaaDoor.P
open Go.RowKit Go.Proofs.YtmdmpafdpgdpoaaDoorW.PrintWords Go.Proofs.YtmdmpafdpgdpoaaDoorW.PrintLast Go.Proofs.YtmdmpafdpgdpoaaDoorW.PrintMore
attribute [local go_sem] max2_int min2_int max_two min_two max_three min_three max_four min_four   -- for this text's walks alone
set_option linter.unusedVariables false
set_option linter.unusedSimpArgs false
def value_Flag.j0 : Nat → Bool → Int → Int → ByteArray → Option (Bool × Int × Int × ByteArray)
  | 0, _, _, _, _ => none
  | k + 1, x11, x132000, x132001, x132002 => if x11 = true then (some (true, 0, 0, (⟨#[]⟩ : ByteArray))) else (if x132000 = 3 then (if x132002.toList = ([70, 65, 76, 83, 69] : List UInt8) then (some ((x132001 != 0), 0, 0, (⟨#[]⟩ : ByteArray))) else ((value_Fail.f 3).bind fun bt137 => (some (false, bt137.1, bt137.2.1, bt137.2.2)))) else (some ((x132001 != 0), 0, 0, (⟨#[]⟩ : ByteArray))))
def value_Flag.f (k : Nat) (a0_0 : Int) (a0_1 : Int) (a0_2 : ByteArray) : Option (Bool × Int × Int × ByteArray) := (value_fault.f k a0_0 a0_1 a0_2).bind fun bt133 => (if bt133.1 = 0 then (if a0_0 = 3 then (value_Flag.j0 k (a0_2.toList == ([84, 82, 85, 69] : List UInt8)) a0_0 a0_1 a0_2) else (value_Flag.j0 k false a0_0 a0_1 a0_2)) else (some (false, bt133.1, bt133.2.1, bt133.2.2)))
set_option maxHeartbeats 8000000 in
set_option maxRecDepth 100000 in
theorem value_Flag.calls (k : Nat) (a0_0 : Int) (a0_1 : Int) (a0_2 : ByteArray) (r1 : Bool) (r2 : Int) (r3 : Int) (r4 : ByteArray) (w : World) (h : value_Flag.f k a0_0 a0_1 a0_2 = some (r1, r2, r3, r4)) :
    Calls Tryd.prog 61 #[.agg #[.int .i64 a0_0, .int .i64 a0_1, .string a0_2]] w fun e w' => e = .returned (.tuple #[.bool r1, .agg #[.int .i64 r2, .int .i64 r3, .string r4]]) ∧ Below w.heap.size w w' := by
  have hu23 := Tryd.underlying23
  have HB := Aside0.mk (Below.refl w.heap.size w)
  have H : ((value_fault.f k a0_0 a0_1 a0_2).bind fun bt133 => (if bt133.1 = 0 then (if a0_0 = 3 then (value_Flag.j0 k (a0_2.toList == ([84, 82, 85, 69] : List UInt8)) a0_0 a0_1 a0_2) else (value_Flag.j0 k false a0_0 a0_1 a0_2)) else (some (false, bt133.1, bt133.2.1, bt133.2.2)))) = some (r1, r2, r3, r4) := h
  clear h
  replace H := Option.bind_eq_some_iff.mp H
  obtain ⟨⟨t133, t134, t135⟩, A20, H⟩ := H
  replace H : (if t133 = 0 then (if a0_0 = 3 then (value_Flag.j0 k (a0_2.toList == ([84, 82, 85, 69] : List UInt8)) a0_0 a0_1 a0_2) else (value_Flag.j0 k false a0_0 a0_1 a0_2)) else (some (false, t133, t134, t135))) = some (r1, r2, r3, r4) := H
  have A2 := Aside0.mk A20
  clear A20
  by_cases c3 : t133 = 0
  · rw [if_pos c3] at H
    have c3b0 : (t133 == 0) = true := beq_iff_eq.mpr c3
    have c3b1 : (t133 != 0) = false := bne_eq_false_iff_eq.mpr c3
    clear c3
    have HC4 := Aside0.mk H
    clear H
    go_enter Tryd.func61, Tryd.ntmps61
    go_upto_region 4 with (first | ((with_reducible refine gate_dst (N := 1) rfl ?_); refine box_event ?hg (N := 1) ?hd (cs := #[.int .i64 a0_0, .int .i64 a0_1, .string a0_2]) (t := 23) ?hr ?_; (case hd => rfl); (case hg => rfl); (case hr => first | (go_simp; done) | (go_simp; rfl)); intro gb131 hg w5 hbox hb; have n0_ := Aside0.mk (below_step (by repeat first | with_reducible exact HB.out | apply zS | exact HB.out) hb); have n1_ := Aside0.mk (hbox); have n2_ := Aside0.mk ((by rw [hg]; exact (below_size (by repeat first | with_reducible exact HB.out | apply zS | exact HB.out)) : w.heap.size ≤ gb131)); have n3_ := n2_; clear HB; have HB := n0_; have BK131 := n1_; have GW131 := n2_; have GE131 := n3_; clear n0_ n1_ n2_ n3_; clear hb hbox hg) | ((with_reducible refine gate_dst (N := 3) rfl ?_); refine box_event ?hg (N := 3) ?hd (cs := #[.int .i64 0, .int .i64 0, .string (⟨#[]⟩ : ByteArray)]) (t := 23) ?hr ?_; (case hd => rfl); (case hg => rfl); (case hr => first | (go_simp; done) | (go_simp; rfl)); intro gb132 hg w6 hbox hb; have n0_ := Aside0.mk (blk_below (g := gb131) (o := .cells #[.int .i64 a0_0, .int .i64 a0_1, .string a0_2] 23 (0, 0)) (zB BK131.out) hb); have n1_ := Aside0.mk (below_step (by repeat first | with_reducible exact HB.out | apply zS | refine below_set ?_ GE131.out | exact HB.out) hb); have n2_ := Aside0.mk (hbox); have n3_ := Aside0.mk ((by rw [hg]; exact (below_size (by repeat first | with_reducible exact HB.out | apply zS | refine below_set ?_ GE131.out | exact HB.out)) : w.heap.size ≤ gb132)); have n4_ := n3_; have n5_ := Aside0.mk ((by rw [hg]; exact Nat.ne_of_lt (blk_lt (g := gb131) (o := .cells #[.int .i64 a0_0, .int .i64 a0_1, .string a0_2] 23 (0, 0)) (zB BK131.out)) : gb131 ≠ gb132)); have n6_ := Aside0.mk ((by rw [hg]; exact Nat.ne_of_gt (blk_lt (g := gb131) (o := .cells #[.int .i64 a0_0, .int .i64 a0_1, .string a0_2] 23 (0, 0)) (zB BK131.out)) : gb132 ≠ gb131)); clear BK131; clear HB; have BK131 := n0_; have HB := n1_; have BK132 := n2_; have GW132 := n3_; have GE132 := n4_; have NB131_132 := n5_; have NB132_131 := n6_; clear n0_ n1_ n2_ n3_ n4_ n5_ n6_; clear hb hbox hg; have hnb7 := NB131_132.out; have hnc7 := NB132_131.out; obtain ⟨hcz8_0, hcz8_1, hcz8_2, hfz8_0, hfz8_1, hfz8_2⟩ := zC3 BK131.out) | ((with_reducible refine gate_callee (f := 79) rfl ?_); refine goesL_ (some 6) rfl rfl Tryd.func79 (by kernel_rfl) rfl #[.agg #[.int .i64 a0_0, .int .i64 a0_1, .string a0_2]] rfl (by (try simp only [List.map_toArray, List.map_cons, List.map_nil]); first | done | rfl | (simp only [List.length_drop, List.length_take]; rfl)) ?_; (with_reducible refine (value_fault.calls k a0_0 a0_1 a0_2 t133 t134 t135 _ A2.out).mono ?_); rintro e w9 ⟨rfl, hb⟩; refine ⟨_, rfl, ?_⟩; have n0_ := Aside0.mk (blk_below (g := gb131) (o := .cells #[.int .i64 a0_0, .int .i64 a0_1, .string a0_2] 23 (0, 0)) (zB BK131.out) hb); have n1_ := Aside0.mk (blk_below (g := gb132) (o := .cells #[.int .i64 0, .int .i64 0, .string (⟨#[]⟩ : ByteArray)] 23 (0, 0)) (zB BK132.out) hb); have n2_ := Aside0.mk (below_step (by repeat first | with_reducible exact HB.out | apply zS | refine below_set ?_ GE131.out | refine below_set ?_ GE132.out | exact HB.out) hb); clear BK131; clear BK132; clear HB; have BK131 := n0_; have BK132 := n1_; have HB := n2_; clear n0_ n1_ n2_; (try clear hb); (try clear hb2); (try clear hk); (try clear hi)) | ((with_reducible refine gate_dst (N := 4) rfl ?_); refine box_event ?hg (N := 4) ?hd (cs := #[.int .i64 0, .int .i64 0, .string (⟨#[]⟩ : ByteArray)]) (t := 23) ?hr ?_; (case hd => rfl); (case hg => rfl); (case hr => first | (go_simp; done) | (go_simp; rfl)); intro gb136 hg w10 hbox hb; have n0_ := Aside0.mk (blk_below (g := gb131) (o := .cells #[.int .i64 a0_0, .int .i64 a0_1, .string a0_2] 23 (0, 0)) (zB BK131.out) hb); have n1_ := Aside0.mk (blk_below (g := gb132) (o := .cells #[.int .i64 0, .int .i64 0, .string (⟨#[]⟩ : ByteArray)] 23 (0, 0)) (zB BK132.out) hb); have n2_ := Aside0.mk (below_step (by repeat first | with_reducible exact HB.out | apply zS | refine below_set ?_ GE131.out | refine below_set ?_ GE132.out | exact HB.out) hb); have n3_ := Aside0.mk (hbox); have n4_ := Aside0.mk ((by rw [hg]; exact (below_size (by repeat first | with_reducible exact HB.out | apply zS | refine below_set ?_ GE131.out | refine below_set ?_ GE132.out | exact HB.out)) : w.heap.size ≤ gb136)); have n5_ := n4_; have n6_ := Aside0.mk ((by rw [hg]; exact Nat.ne_of_lt (blk_lt (g := gb131) (o := .cells #[.int .i64 a0_0, .int .i64 a0_1, .string a0_2] 23 (0, 0)) (zB BK131.out)) : gb131 ≠ gb136)); have n7_ := Aside0.mk ((by rw [hg]; exact Nat.ne_of_gt (blk_lt (g := gb131) (o := .cells #[.int .i64 a0_0, .int .i64 a0_1, .string a0_2] 23 (0, 0)) (zB BK131.out)) : gb136 ≠ gb131)); have n8_ := Aside0.mk ((by rw [hg]; exact Nat.ne_of_lt (blk_lt (g := gb132) (o := .cells #[.int .i64 0, .int .i64 0, .string (⟨#[]⟩ : ByteArray)] 23 (0, 0)) (zB BK132.out)) : gb132 ≠ gb136)); have n9_ := Aside0.mk ((by rw [hg]; exact Nat.ne_of_gt (blk_lt (g := gb132) (o := .cells #[.int .i64 0, .int .i64 0, .string (⟨#[]⟩ : ByteArray)] 23 (0, 0)) (zB BK132.out)) : gb136 ≠ gb132)); clear BK131; clear BK132; clear HB; have BK131 := n0_; have BK132 := n1_; have HB := n2_; have BK136 := n3_; have GW136 := n4_; have GE136 := n5_; have NB131_136 := n6_; have NB136_131 := n7_; have NB132_136 := n8_; have NB136_132 := n9_; clear n0_ n1_ n2_ n3_ n4_ n5_ n6_ n7_ n8_ n9_; clear hb hbox hg; have hnb11 := NB136_131.out; have hnc11 := NB131_136.out; have hnb12 := NB136_132.out; have hnc12 := NB132_136.out; obtain ⟨hcz13_0, hcz13_1, hcz13_2, hfz13_0, hfz13_1, hfz13_2⟩ := zC3 BK136.out))
    (try simp only [Act.put, List.setIfInBounds_toArray, List.set_cons_zero, List.set_cons_succ])
    go_cut [11] (fun v11 wc => ∃ (kq : Nat) (x11_3 : Bool), v11 = .bool x11_3 ∧ Aside0 (value_Flag.j0 kq x11_3 a0_0 a0_1 a0_2 = some (r1, r2, r3, r4)) ∧ Aside0 (kq ≤ k) ∧ Aside0 (wc.heap[gb131]? = some (.cells #[.int .i64 a0_0, .int .i64 a0_1, .string a0_2] 23 (0, 0))) ∧ Aside0 (wc.heap[gb132]? = some (.cells #[.int .i64 0, .int .i64 0, .string (⟨#[]⟩ : ByteArray)] 23 (0, 0))) ∧ Aside0 (wc.heap[gb136]? = some (.cells #[.int .i64 t133, .int .i64 t134, .string t135] 23 (0, 0))) ∧ Aside0 (Below w.heap.size w wc))
    case first =>
      have H := HC4.out
      clear HC4
      by_cases c14 : a0_0 = 3
      · rw [if_pos c14] at H
        have c14b0 : (a0_0 == 3) = true := beq_iff_eq.mpr c14
        have c14b1 : (a0_0 != 3) = false := bne_eq_false_iff_eq.mpr c14
        clear c14
        (first | rw [c14b0] | (simp only [i64_w, i32_w]; rw [c14b0]) | skip)
        have H' := Aside0.mk H
        clear H
        have hnb15 := NB131_132.out
        have hnc15 := NB132_131.out
        have hnb16 := NB131_136.out
        have hnc16 := NB136_131.out
        have hcz17_0 : w10.cell? ⟨gb131, 0, none⟩ = some (.int .i64 a0_0) := (blk_cell BK131.out 0).trans rfl
        have hcz17_1 : w10.cell? ⟨gb131, 1, none⟩ = some (.int .i64 a0_1) := (blk_cell BK131.out 1).trans rfl
        have hcz17_2 : w10.cell? ⟨gb131, 2, none⟩ = some (.string a0_2) := (blk_cell BK131.out 2).trans rfl
        have hfz17_0 := blk_frozen BK131.out 0
        have hfz17_1 := blk_frozen BK131.out 1
        have hfz17_2 := blk_frozen BK131.out 2
        go_wp2
        go_meet
        case rel => exact ⟨_, ((a0_2.toList == ([84, 82, 85, 69] : List UInt8))), (by first | rfl | (simp; done) | (simp [*]; done)), H', ⟨by first | omega | exact Nat.le_refl _⟩, ⟨by refine zB (blk_far ?_ NB131_136.out _); refine zB ?_; refine blk_far ?_ NB131_136.out _; refine zB (blk_far ?_ NB131_136.out _); refine zB ?_; exact BK131.out⟩, ⟨by refine zB (blk_far ?_ NB132_136.out _); refine zB ?_; refine blk_far ?_ NB132_136.out _; refine zB (blk_far ?_ NB132_136.out _); refine zB ?_; exact BK132.out⟩, ⟨by refine zB ?_; refine blk_put (cs := #[.int .i64 t133, .int .i64 t134, .string (⟨#[]⟩ : ByteArray)]) ?_ 2 _ rfl; refine zB ?_; refine blk_put (cs := #[.int .i64 t133, .int .i64 0, .string (⟨#[]⟩ : ByteArray)]) ?_ 1 _ rfl; refine zB ?_; refine blk_put (cs := #[.int .i64 0, .int .i64 0, .string (⟨#[]⟩ : ByteArray)]) ?_ 0 _ rfl; refine zB ?_; exact BK136.out⟩, ⟨by repeat first | with_reducible exact HB.out | apply zS | refine below_set ?_ GE131.out | refine below_set ?_ GE132.out | refine below_set ?_ GE136.out | exact HB.out⟩⟩
      · rw [if_neg c14] at H
        have c14b0 : (a0_0 == 3) = false := beq_eq_false_iff_ne.mpr c14
        have c14b1 : (a0_0 != 3) = true := bne_iff_ne.mpr c14
        (first | rw [c14b0] | (simp only [i64_w, i32_w]; rw [c14b0]) | skip)
        have H' := Aside0.mk H
        clear H
        have hnb18 := NB131_132.out
        have hnc18 := NB132_131.out
        have hnb19 := NB131_136.out
        have hnc19 := NB136_131.out
        have hcz20_0 : w10.cell? ⟨gb131, 0, none⟩ = some (.int .i64 a0_0) := (blk_cell BK131.out 0).trans rfl
        have hcz20_1 : w10.cell? ⟨gb131, 1, none⟩ = some (.int .i64 a0_1) := (blk_cell BK131.out 1).trans rfl
        have hcz20_2 : w10.cell? ⟨gb131, 2, none⟩ = some (.string a0_2) := (blk_cell BK131.out 2).trans rfl
        have hfz20_0 := blk_frozen BK131.out 0
        have hfz20_1 := blk_frozen BK131.out 1
        have hfz20_2 := blk_frozen BK131.out 2
        go_wp2
        go_meet
        case rel => exact ⟨_, (false), (by first | rfl | (simp; done) | (simp [*]; done)), H', ⟨by first | omega | exact Nat.le_refl _⟩, ⟨by refine zB (blk_far ?_ NB131_136.out _); refine zB ?_; refine blk_far ?_ NB131_136.out _; refine zB (blk_far ?_ NB131_136.out _); refine zB ?_; exact BK131.out⟩, ⟨by refine zB (blk_far ?_ NB132_136.out _); refine zB ?_; refine blk_far ?_ NB132_136.out _; refine zB (blk_far ?_ NB132_136.out _); refine zB ?_; exact BK132.out⟩, ⟨by refine zB ?_; refine blk_put (cs := #[.int .i64 t133, .int .i64 t134, .string (⟨#[]⟩ : ByteArray)]) ?_ 2 _ rfl; refine zB ?_; refine blk_put (cs := #[.int .i64 t133, .int .i64 0, .string (⟨#[]⟩ : ByteArray)]) ?_ 1 _ rfl; refine zB ?_; refine blk_put (cs := #[.int .i64 0, .int .i64 0, .string (⟨#[]⟩ : ByteArray)]) ?_ 0 _ rfl; refine zB ?_; exact BK136.out⟩, ⟨by repeat first | with_reducible exact HB.out | apply zS | refine below_set ?_ GE131.out | refine below_set ?_ GE132.out | refine below_set ?_ GE136.out | exact HB.out⟩⟩
    case rest =>
      clear HC4
      try clear c1
      try clear p2
      try clear c3
      try clear c3b0
      try clear c3b1
      try clear c6
      try clear c7
      try clear c11
      try clear c12
      try clear c14
      try clear c14b0
      try clear c14b1
      try clear c15
      try clear c16
      try clear c18
      try clear c19
      try clear hcz13_0
      try clear hcz13_1
      try clear hcz13_2
      try clear hcz17_0
      try clear hcz17_1
      try clear hcz17_2
      try clear hcz20_0
      try clear hcz20_1
      try clear hcz20_2
      try clear hcz8_0
      try clear hcz8_1
      try clear hcz8_2
      try clear hfz13_0
      try clear hfz13_1
      try clear hfz13_2
      try clear hfz17_0
      try clear hfz17_1
      try clear hfz17_2
      try clear hfz20_0
      try clear hfz20_1
      try clear hfz20_2
      try clear hfz8_0
      try clear hfz8_1
      try clear hfz8_2
      obtain ⟨kq, x11_3, rfl, HA, HJ3, BK131, BK132, BK136, HB⟩ := hcut
      cases kq with
      | zero => exact absurd HA.out (by simp [value_Flag.j0])
      | succ kj3 =>
        have H := HA.out
        clear HA
        simp only [value_Flag.j0] at H
        by_cases c21 : x11_3 = true
        · subst c21
          have H1 : (some (true, 0, 0, (⟨#[]⟩ : ByteArray))) = some (r1, r2, r3, r4) := by rw [if_pos rfl] at H; exact H
          clear H
          have H := H1
          clear H1
          simp only [Option.some.injEq, Prod.mk.injEq] at H
          obtain ⟨rfl, rfl, rfl, rfl⟩ := H
          have hnb22 := NB132_131.out
          have hnc22 := NB131_132.out
          have hnb23 := NB132_136.out
          have hnc23 := NB136_132.out
          have hcz24_0 : wc.cell? ⟨gb132, 0, none⟩ = some (.int .i64 0) := (blk_cell BK132.out 0).trans rfl
          have hcz24_1 : wc.cell? ⟨gb132, 1, none⟩ = some (.int .i64 0) := (blk_cell BK132.out 1).trans rfl
          have hcz24_2 : wc.cell? ⟨gb132, 2, none⟩ = some (.string (⟨#[]⟩ : ByteArray)) := (blk_cell BK132.out 2).trans rfl
          have hfz24_0 := blk_frozen BK132.out 0
          have hfz24_1 := blk_frozen BK132.out 1
          have hfz24_2 := blk_frozen BK132.out 2
          go_wp2
          refine bodyPost_ret (results_tc rfl _ _ gb132 23 #[.int .i64 0, .int .i64 0, .string (⟨#[]⟩ : ByteArray)] (0, 0) _ rfl (by (with_reducible repeat (first | refine blk_drewN ?_ _ | refine blk_drew ?_ | refine blk_alloc ?_ _)); refine blk_put (cs := #[.int .i64 0, .int .i64 0, .string (⟨#[]⟩ : ByteArray)]) ?_ 2 _ rfl; (with_reducible repeat (first | refine blk_drewN ?_ _ | refine blk_drew ?_ | refine blk_alloc ?_ _)); refine blk_put (cs := #[.int .i64 0, .int .i64 0, .string (⟨#[]⟩ : ByteArray)]) ?_ 1 _ rfl; (with_reducible repeat (first | refine blk_drewN ?_ _ | refine blk_drew ?_ | refine blk_alloc ?_ _)); refine blk_put (cs := #[.int .i64 0, .int .i64 0, .string (⟨#[]⟩ : ByteArray)]) ?_ 0 _ rfl; (with_reducible repeat (first | refine blk_drewN ?_ _ | refine blk_drew ?_ | refine blk_alloc ?_ _)); exact BK132.out) Tryd.underlying23 rfl (by kernel_rfl)) rfl ?_
          exact ⟨by first | rfl | (simp [errW_none, errW_some] <;> rfl) | (simp [*, errW_none, errW_some] <;> rfl), by repeat first | with_reducible exact HB.out | apply zS | refine below_set ?_ GE131.out | refine below_set ?_ GE132.out | refine below_set ?_ GE136.out | exact HB.out⟩
        · replace c21 := Bool.eq_false_iff.mpr c21
          subst c21
          have H1 : (if a0_0 = 3 then (if a0_2.toList = ([70, 65, 76, 83, 69] : List UInt8) then (some ((a0_1 != 0), 0, 0, (⟨#[]⟩ : ByteArray))) else ((value_Fail.f 3).bind fun bt137 => (some (false, bt137.1, bt137.2.1, bt137.2.2)))) else (some ((a0_1 != 0), 0, 0, (⟨#[]⟩ : ByteArray)))) = some (r1, r2, r3, r4) := by rw [if_neg (show ¬ (false = true) by decide)] at H; exact H
          clear H
          have H := H1
          clear H1
          by_cases c25 : a0_0 = 3
          · rw [if_pos c25] at H
            have c25b0 : (a0_0 == 3) = true := beq_iff_eq.mpr c25
            have c25b1 : (a0_0 != 3) = false := bne_eq_false_iff_eq.mpr c25
            clear c25
            by_cases c26 : a0_2.toList = ([70, 65, 76, 83, 69] : List UInt8)
            · rw [if_pos c26] at H
              have c26b0 : (a0_2.toList == ([70, 65, 76, 83, 69] : List UInt8)) = true := beq_iff_eq.mpr c26
              have c26b1 : (a0_2.toList != ([70, 65, 76, 83, 69] : List UInt8)) = false := bne_eq_false_iff_eq.mpr c26
              clear c26
              simp only [Option.some.injEq, Prod.mk.injEq] at H
              obtain ⟨rfl, rfl, rfl, rfl⟩ := H
              have hnb27 := NB131_132.out
              have hnc27 := NB132_131.out
              have hnb28 := NB131_136.out
              have hnc28 := NB136_131.out
              have hcz29_0 : wc.cell? ⟨gb131, 0, none⟩ = some (.int .i64 a0_0) := (blk_cell BK131.out 0).trans rfl
              have hcz29_1 : wc.cell? ⟨gb131, 1, none⟩ = some (.int .i64 a0_1) := (blk_cell BK131.out 1).trans rfl
              have hcz29_2 : wc.cell? ⟨gb131, 2, none⟩ = some (.string a0_2) := (blk_cell BK131.out 2).trans rfl
              have hfz29_0 := blk_frozen BK131.out 0
              have hfz29_1 := blk_frozen BK131.out 1
              have hfz29_2 := blk_frozen BK131.out 2
              have hnb30 := NB132_136.out
              have hnc30 := NB136_132.out
              have hcz31_0 : wc.cell? ⟨gb132, 0, none⟩ = some (.int .i64 0) := (blk_cell BK132.out 0).trans rfl
              have hcz31_1 : wc.cell? ⟨gb132, 1, none⟩ = some (.int .i64 0) := (blk_cell BK132.out 1).trans rfl
              have hcz31_2 : wc.cell? ⟨gb132, 2, none⟩ = some (.string (⟨#[]⟩ : ByteArray)) := (blk_cell BK132.out 2).trans rfl
              have hfz31_0 := blk_frozen BK132.out 0
              have hfz31_1 := blk_frozen BK132.out 1
              have hfz31_2 := blk_frozen BK132.out 2
              go_wp2
              refine bodyPost_ret (results_tc rfl _ _ gb132 23 #[.int .i64 0, .int .i64 0, .string (⟨#[]⟩ : ByteArray)] (0, 0) _ rfl (by (with_reducible repeat (first | refine blk_drewN ?_ _ | refine blk_drew ?_ | refine blk_alloc ?_ _)); refine blk_put (cs := #[.int .i64 0, .int .i64 0, .string (⟨#[]⟩ : ByteArray)]) ?_ 2 _ rfl; (with_reducible repeat (first | refine blk_drewN ?_ _ | refine blk_drew ?_ | refine blk_alloc ?_ _)); refine blk_put (cs := #[.int .i64 0, .int .i64 0, .string (⟨#[]⟩ : ByteArray)]) ?_ 1 _ rfl; (with_reducible repeat (first | refine blk_drewN ?_ _ | refine blk_drew ?_ | refine blk_alloc ?_ _)); refine blk_put (cs := #[.int .i64 0, .int .i64 0, .string (⟨#[]⟩ : ByteArray)]) ?_ 0 _ rfl; (with_reducible repeat (first | refine blk_drewN ?_ _ | refine blk_drew ?_ | refine blk_alloc ?_ _)); exact BK132.out) Tryd.underlying23 rfl (by kernel_rfl)) rfl ?_
              exact ⟨by first | rfl | (simp [errW_none, errW_some] <;> rfl) | (simp [*, errW_none, errW_some] <;> rfl), by repeat first | with_reducible exact HB.out | apply zS | refine below_set ?_ GE131.out | refine below_set ?_ GE132.out | refine below_set ?_ GE136.out | exact HB.out⟩
            · rw [if_neg c26] at H
              have c26b0 : (a0_2.toList == ([70, 65, 76, 83, 69] : List UInt8)) = false := beq_eq_false_iff_ne.mpr c26
              have c26b1 : (a0_2.toList != ([70, 65, 76, 83, 69] : List UInt8)) = true := bne_iff_ne.mpr c26
              replace H := Option.bind_eq_some_iff.mp H
              obtain ⟨⟨t137, t138, t139⟩, A320, H⟩ := H
              replace H : (some (false, t137, t138, t139)) = some (r1, r2, r3, r4) := H
              have A32 := Aside0.mk A320
              clear A320
              simp only [Option.some.injEq, Prod.mk.injEq] at H
              obtain ⟨rfl, rfl, rfl, rfl⟩ := H
              have hnb33 := NB131_132.out
              have hnc33 := NB132_131.out
              have hnb34 := NB131_136.out
              have hnc34 := NB136_131.out
              have hcz35_0 : wc.cell? ⟨gb131, 0, none⟩ = some (.int .i64 a0_0) := (blk_cell BK131.out 0).trans rfl
              have hcz35_1 : wc.cell? ⟨gb131, 1, none⟩ = some (.int .i64 a0_1) := (blk_cell BK131.out 1).trans rfl
              have hcz35_2 : wc.cell? ⟨gb131, 2, none⟩ = some (.string a0_2) := (blk_cell BK131.out 2).trans rfl
              have hfz35_0 := blk_frozen BK131.out 0
              have hfz35_1 := blk_frozen BK131.out 1
              have hfz35_2 := blk_frozen BK131.out 2
              go_wp2_with (first | ((with_reducible refine gate_callee (f := 30) rfl ?_); refine goesL_ (some 30) rfl rfl Tryd.func30 (by kernel_rfl) rfl #[.int .i64 3] rfl (by (try simp only [List.map_toArray, List.map_cons, List.map_nil]); first | done | rfl | (simp only [List.length_drop, List.length_take]; rfl)) ?_; (with_reducible refine (value_Fail.calls 3 t137 t138 t139 _ A32.out).mono ?_); rintro e w36 ⟨rfl, hb⟩; refine ⟨_, rfl, ?_⟩; have n0_ := Aside0.mk (blk_below (g := gb131) (o := .cells #[.int .i64 a0_0, .int .i64 a0_1, .string a0_2] 23 (0, 0)) (zB BK131.out) hb); have n1_ := Aside0.mk (blk_below (g := gb132) (o := .cells #[.int .i64 0, .int .i64 0, .string (⟨#[]⟩ : ByteArray)] 23 (0, 0)) (zB BK132.out) hb); have n2_ := Aside0.mk (blk_below (g := gb136) (o := .cells #[.int .i64 t133, .int .i64 t134, .string t135] 23 (0, 0)) (zB BK136.out) hb); have n3_ := Aside0.mk (below_step (by repeat first | with_reducible exact HB.out | apply zS | refine below_set ?_ GE131.out | refine below_set ?_ GE132.out | refine below_set ?_ GE136.out | exact HB.out) hb); clear BK131; clear BK132; clear BK136; clear HB; have BK131 := n0_; have BK132 := n1_; have BK136 := n2_; have HB := n3_; clear n0_ n1_ n2_ n3_; (try clear hb); (try clear hb2); (try clear hk); (try clear hi); have hnb37 := NB132_136.out; have hnc37 := NB136_132.out; obtain ⟨hcz38_0, hcz38_1, hcz38_2, hfz38_0, hfz38_1, hfz38_2⟩ := zC3 BK132.out))
              refine bodyPost_ret (results_tc rfl _ _ gb132 23 #[.int .i64 t137, .int .i64 t138, .string t139] (0, 0) _ rfl (by (with_reducible repeat (first | refine blk_drewN ?_ _ | refine blk_drew ?_ | refine blk_alloc ?_ _)); refine blk_put (cs := #[.int .i64 t137, .int .i64 t138, .string (⟨#[]⟩ : ByteArray)]) ?_ 2 _ rfl; (with_reducible repeat (first | refine blk_drewN ?_ _ | refine blk_drew ?_ | refine blk_alloc ?_ _)); refine blk_put (cs := #[.int .i64 t137, .int .i64 0, .string (⟨#[]⟩ : ByteArray)]) ?_ 1 _ rfl; (with_reducible repeat (first | refine blk_drewN ?_ _ | refine blk_drew ?_ | refine blk_alloc ?_ _)); refine blk_put (cs := #[.int .i64 0, .int .i64 0, .string (⟨#[]⟩ : ByteArray)]) ?_ 0 _ rfl; (with_reducible repeat (first | refine blk_drewN ?_ _ | refine blk_drew ?_ | refine blk_alloc ?_ _)); exact BK132.out) Tryd.underlying23 rfl (by kernel_rfl)) rfl ?_
              exact ⟨by first | rfl | (simp [errW_none, errW_some] <;> rfl) | (simp [*, errW_none, errW_some] <;> rfl), by repeat first | with_reducible exact HB.out | apply zS | refine below_set ?_ GE131.out | refine below_set ?_ GE132.out | refine below_set ?_ GE136.out | exact HB.out⟩
          · rw [if_neg c25] at H
            have c25b0 : (a0_0 == 3) = false := beq_eq_false_iff_ne.mpr c25
            have c25b1 : (a0_0 != 3) = true := bne_iff_ne.mpr c25
            simp only [Option.some.injEq, Prod.mk.injEq] at H
            obtain ⟨rfl, rfl, rfl, rfl⟩ := H
            have hnb39 := NB131_132.out
            have hnc39 := NB132_131.out
            have hnb40 := NB131_136.out
            have hnc40 := NB136_131.out
            have hcz41_0 : wc.cell? ⟨gb131, 0, none⟩ = some (.int .i64 a0_0) := (blk_cell BK131.out 0).trans rfl
            have hcz41_1 : wc.cell? ⟨gb131, 1, none⟩ = some (.int .i64 a0_1) := (blk_cell BK131.out 1).trans rfl
            have hcz41_2 : wc.cell? ⟨gb131, 2, none⟩ = some (.string a0_2) := (blk_cell BK131.out 2).trans rfl
            have hfz41_0 := blk_frozen BK131.out 0
            have hfz41_1 := blk_frozen BK131.out 1
            have hfz41_2 := blk_frozen BK131.out 2
            have hnb42 := NB132_136.out
            have hnc42 := NB136_132.out
            have hcz43_0 : wc.cell? ⟨gb132, 0, none⟩ = some (.int .i64 0) := (blk_cell BK132.out 0).trans rfl
            have hcz43_1 : wc.cell? ⟨gb132, 1, none⟩ = some (.int .i64 0) := (blk_cell BK132.out 1).trans rfl
            have hcz43_2 : wc.cell? ⟨gb132, 2, none⟩ = some (.string (⟨#[]⟩ : ByteArray)) := (blk_cell BK132.out 2).trans rfl
            have hfz43_0 := blk_frozen BK132.out 0
            have hfz43_1 := blk_frozen BK132.out 1
            have hfz43_2 := blk_frozen BK132.out 2
            go_wp2
            refine bodyPost_ret (results_tc rfl _ _ gb132 23 #[.int .i64 0, .int .i64 0, .string (⟨#[]⟩ : ByteArray)] (0, 0) _ rfl (by (with_reducible repeat (first | refine blk_drewN ?_ _ | refine blk_drew ?_ | refine blk_alloc ?_ _)); refine blk_put (cs := #[.int .i64 0, .int .i64 0, .string (⟨#[]⟩ : ByteArray)]) ?_ 2 _ rfl; (with_reducible repeat (first | refine blk_drewN ?_ _ | refine blk_drew ?_ | refine blk_alloc ?_ _)); refine blk_put (cs := #[.int .i64 0, .int .i64 0, .string (⟨#[]⟩ : ByteArray)]) ?_ 1 _ rfl; (with_reducible repeat (first | refine blk_drewN ?_ _ | refine blk_drew ?_ | refine blk_alloc ?_ _)); refine blk_put (cs := #[.int .i64 0, .int .i64 0, .string (⟨#[]⟩ : ByteArray)]) ?_ 0 _ rfl; (with_reducible repeat (first | refine blk_drewN ?_ _ | refine blk_drew ?_ | refine blk_alloc ?_ _)); exact BK132.out) Tryd.underlying23 rfl (by kernel_rfl)) rfl ?_
            exact ⟨by first | rfl | (simp [errW_none, errW_some] <;> rfl) | (simp [*, errW_none, errW_some] <;> rfl), by repeat first | with_reducible exact HB.out | apply zS | refine below_set ?_ GE131.out | refine below_set ?_ GE132.out | refine below_set ?_ GE136.out | exact HB.out⟩
  · rw [if_neg c3] at H
    have c3b0 : (t133 == 0) = false := beq_eq_false_iff_ne.mpr c3
    have c3b1 : (t133 != 0) = true := bne_iff_ne.mpr c3
    simp only [Option.some.injEq, Prod.mk.injEq] at H
    obtain ⟨rfl, rfl, rfl, rfl⟩ := H
    go_enter Tryd.func61, Tryd.ntmps61
    try go_wp2_with (first | ((with_reducible refine gate_dst (N := 1) rfl ?_); refine box_event ?hg (N := 1) ?hd (cs := #[.int .i64 a0_0, .int .i64 a0_1, .string a0_2]) (t := 23) ?hr ?_; (case hd => rfl); (case hg => rfl); (case hr => first | (go_simp; done) | (go_simp; rfl)); intro gb131 hg w44 hbox hb; have n0_ := Aside0.mk (below_step (by repeat first | with_reducible exact HB.out | apply zS | exact HB.out) hb); have n1_ := Aside0.mk (hbox); have n2_ := Aside0.mk ((by rw [hg]; exact (below_size (by repeat first | with_reducible exact HB.out | apply zS | exact HB.out)) : w.heap.size ≤ gb131)); have n3_ := n2_; clear HB; have HB := n0_; have BK131 := n1_; have GW131 := n2_; have GE131 := n3_; clear n0_ n1_ n2_ n3_; clear hb hbox hg) | ((with_reducible refine gate_dst (N := 3) rfl ?_); refine box_event ?hg (N := 3) ?hd (cs := #[.int .i64 0, .int .i64 0, .string (⟨#[]⟩ : ByteArray)]) (t := 23) ?hr ?_; (case hd => rfl); (case hg => rfl); (case hr => first | (go_simp; done) | (go_simp; rfl)); intro gb132 hg w45 hbox hb; have n0_ := Aside0.mk (blk_below (g := gb131) (o := .cells #[.int .i64 a0_0, .int .i64 a0_1, .string a0_2] 23 (0, 0)) (zB BK131.out) hb); have n1_ := Aside0.mk (below_step (by repeat first | with_reducible exact HB.out | apply zS | refine below_set ?_ GE131.out | exact HB.out) hb); have n2_ := Aside0.mk (hbox); have n3_ := Aside0.mk ((by rw [hg]; exact (below_size (by repeat first | with_reducible exact HB.out | apply zS | refine below_set ?_ GE131.out | exact HB.out)) : w.heap.size ≤ gb132)); have n4_ := n3_; have n5_ := Aside0.mk ((by rw [hg]; exact Nat.ne_of_lt (blk_lt (g := gb131) (o := .cells #[.int .i64 a0_0, .int .i64 a0_1, .string a0_2] 23 (0, 0)) (zB BK131.out)) : gb131 ≠ gb132)); have n6_ := Aside0.mk ((by rw [hg]; exact Nat.ne_of_gt (blk_lt (g := gb131) (o := .cells #[.int .i64 a0_0, .int .i64 a0_1, .string a0_2] 23 (0, 0)) (zB BK131.out)) : gb132 ≠ gb131)); clear BK131; clear HB; have BK131 := n0_; have HB := n1_; have BK132 := n2_; have GW132 := n3_; have GE132 := n4_; have NB131_132 := n5_; have NB132_131 := n6_; clear n0_ n1_ n2_ n3_ n4_ n5_ n6_; clear hb hbox hg; have hnb46 := NB131_132.out; have hnc46 := NB132_131.out; obtain ⟨hcz47_0, hcz47_1, hcz47_2, hfz47_0, hfz47_1, hfz47_2⟩ := zC3 BK131.out) | ((with_reducible refine gate_callee (f := 79) rfl ?_); refine goesL_ (some 6) rfl rfl Tryd.func79 (by kernel_rfl) rfl #[.agg #[.int .i64 a0_0, .int .i64 a0_1, .string a0_2]] rfl (by (try simp only [List.map_toArray, List.map_cons, List.map_nil]); first | done | rfl | (simp only [List.length_drop, List.length_take]; rfl)) ?_; (with_reducible refine (value_fault.calls k a0_0 a0_1 a0_2 t133 t134 t135 _ A2.out).mono ?_); rintro e w48 ⟨rfl, hb⟩; refine ⟨_, rfl, ?_⟩; have n0_ := Aside0.mk (blk_below (g := gb131) (o := .cells #[.int .i64 a0_0, .int .i64 a0_1, .string a0_2] 23 (0, 0)) (zB BK131.out) hb); have n1_ := Aside0.mk (blk_below (g := gb132) (o := .cells #[.int .i64 0, .int .i64 0, .string (⟨#[]⟩ : ByteArray)] 23 (0, 0)) (zB BK132.out) hb); have n2_ := Aside0.mk (below_step (by repeat first | with_reducible exact HB.out | apply zS | refine below_set ?_ GE131.out | refine below_set ?_ GE132.out | exact HB.out) hb); clear BK131; clear BK132; clear HB; have BK131 := n0_; have BK132 := n1_; have HB := n2_; clear n0_ n1_ n2_; (try clear hb); (try clear hb2); (try clear hk); (try clear hi)) | ((with_reducible refine gate_dst (N := 4) rfl ?_); refine box_event ?hg (N := 4) ?hd (cs := #[.int .i64 0, .int .i64 0, .string (⟨#[]⟩ : ByteArray)]) (t := 23) ?hr ?_; (case hd => rfl); (case hg => rfl); (case hr => first | (go_simp; done) | (go_simp; rfl)); intro gb136 hg w49 hbox hb; have n0_ := Aside0.mk (blk_below (g := gb131) (o := .cells #[.int .i64 a0_0, .int .i64 a0_1, .string a0_2] 23 (0, 0)) (zB BK131.out) hb); have n1_ := Aside0.mk (blk_below (g := gb132) (o := .cells #[.int .i64 0, .int .i64 0, .string (⟨#[]⟩ : ByteArray)] 23 (0, 0)) (zB BK132.out) hb); have n2_ := Aside0.mk (below_step (by repeat first | with_reducible exact HB.out | apply zS | refine below_set ?_ GE131.out | refine below_set ?_ GE132.out | exact HB.out) hb); have n3_ := Aside0.mk (hbox); have n4_ := Aside0.mk ((by rw [hg]; exact (below_size (by repeat first | with_reducible exact HB.out | apply zS | refine below_set ?_ GE131.out | refine below_set ?_ GE132.out | exact HB.out)) : w.heap.size ≤ gb136)); have n5_ := n4_; have n6_ := Aside0.mk ((by rw [hg]; exact Nat.ne_of_lt (blk_lt (g := gb131) (o := .cells #[.int .i64 a0_0, .int .i64 a0_1, .string a0_2] 23 (0, 0)) (zB BK131.out)) : gb131 ≠ gb136)); have n7_ := Aside0.mk ((by rw [hg]; exact Nat.ne_of_gt (blk_lt (g := gb131) (o := .cells #[.int .i64 a0_0, .int .i64 a0_1, .string a0_2] 23 (0, 0)) (zB BK131.out)) : gb136 ≠ gb131)); have n8_ := Aside0.mk ((by rw [hg]; exact Nat.ne_of_lt (blk_lt (g := gb132) (o := .cells #[.int .i64 0, .int .i64 0, .string (⟨#[]⟩ : ByteArray)] 23 (0, 0)) (zB BK132.out)) : gb132 ≠ gb136)); have n9_ := Aside0.mk ((by rw [hg]; exact Nat.ne_of_gt (blk_lt (g := gb132) (o := .cells #[.int .i64 0, .int .i64 0, .string (⟨#[]⟩ : ByteArray)] 23 (0, 0)) (zB BK132.out)) : gb136 ≠ gb132)); clear BK131; clear BK132; clear HB; have BK131 := n0_; have BK132 := n1_; have HB := n2_; have BK136 := n3_; have GW136 := n4_; have GE136 := n5_; have NB131_136 := n6_; have NB136_131 := n7_; have NB132_136 := n8_; have NB136_132 := n9_; clear n0_ n1_ n2_ n3_ n4_ n5_ n6_ n7_ n8_ n9_; clear hb hbox hg; have hnb50 := NB136_131.out; have hnc50 := NB131_136.out; have hnb51 := NB136_132.out; have hnc51 := NB132_136.out; obtain ⟨hcz52_0, hcz52_1, hcz52_2, hfz52_0, hfz52_1, hfz52_2⟩ := zC3 BK136.out))
    have n0_ : Aside0 ((((w49.setCell ⟨gb136, 0, none⟩ (.int .i64 t133)).setCell ⟨gb136, 1, none⟩ (.int .i64 t134)).setCell ⟨gb136, 2, none⟩ (.string t135)).heap[gb131]? = some (.cells #[.int .i64 a0_0, .int .i64 a0_1, .string a0_2] 23 (0, 0))) := ⟨by refine zB (blk_far ?_ NB131_136.out _); refine zB ?_; refine blk_far ?_ NB131_136.out _; refine zB (blk_far ?_ NB131_136.out _); refine zB ?_; exact BK131.out⟩
    have n1_ : Aside0 ((((w49.setCell ⟨gb136, 0, none⟩ (.int .i64 t133)).setCell ⟨gb136, 1, none⟩ (.int .i64 t134)).setCell ⟨gb136, 2, none⟩ (.string t135)).heap[gb132]? = some (.cells #[.int .i64 0, .int .i64 0, .string (⟨#[]⟩ : ByteArray)] 23 (0, 0))) := ⟨by refine zB (blk_far ?_ NB132_136.out _); refine zB ?_; refine blk_far ?_ NB132_136.out _; refine zB (blk_far ?_ NB132_136.out _); refine zB ?_; exact BK132.out⟩
    have n2_ : Aside0 ((((w49.setCell ⟨gb136, 0, none⟩ (.int .i64 t133)).setCell ⟨gb136, 1, none⟩ (.int .i64 t134)).setCell ⟨gb136, 2, none⟩ (.string t135)).heap[gb136]? = some (.cells #[.int .i64 t133, .int .i64 t134, .string t135] 23 (0, 0))) := ⟨by refine zB ?_; refine blk_put (cs := #[.int .i64 t133, .int .i64 t134, .string (⟨#[]⟩ : ByteArray)]) ?_ 2 _ rfl; refine zB ?_; refine blk_put (cs := #[.int .i64 t133, .int .i64 0, .string (⟨#[]⟩ : ByteArray)]) ?_ 1 _ rfl; refine zB ?_; refine blk_put (cs := #[.int .i64 0, .int .i64 0, .string (⟨#[]⟩ : ByteArray)]) ?_ 0 _ rfl; refine zB ?_; exact BK136.out⟩
    have n3_ : Aside0 (Below w.heap.size w (((w49.setCell ⟨gb136, 0, none⟩ (.int .i64 t133)).setCell ⟨gb136, 1, none⟩ (.int .i64 t134)).setCell ⟨gb136, 2, none⟩ (.string t135))) := ⟨by repeat first | with_reducible exact HB.out | apply zS | refine below_set ?_ GE131.out | refine below_set ?_ GE132.out | refine below_set ?_ GE136.out | exact HB.out⟩
    (try clear BK131)
    (try clear BK132)
    (try clear BK136)
    (try clear HB)
    generalize (((w49.setCell ⟨gb136, 0, none⟩ (.int .i64 t133)).setCell ⟨gb136, 1, none⟩ (.int .i64 t134)).setCell ⟨gb136, 2, none⟩ (.string t135)) = w53 at n0_ n1_ n2_ n3_ ⊢
    have BK131 := n0_
    have BK132 := n1_
    have BK136 := n2_
    have HB := n3_
    clear n0_ n1_ n2_ n3_
    have n0_ := Aside0.mk (blk_drew BK131.out)
    have n1_ := Aside0.mk (blk_drew BK132.out)
    have n2_ := Aside0.mk (blk_drew BK136.out)
    have n3_ := Aside0.mk (below_drew1 HB.out)
    clear BK131
    clear BK132
    clear BK136
    clear HB
    have BK131 := n0_
    have BK132 := n1_
    have BK136 := n2_
    have HB := n3_
    clear n0_ n1_ n2_ n3_
    refine start_ (n := 3) (S := fun w' => w'.cell? ⟨gb136, 0, none⟩ = some (.int .i64 t133) ∧ w'.cell? ⟨gb136, 1, none⟩ = some (.int .i64 t134) ∧ w'.cell? ⟨gb136, 2, none⟩ = some (.string t135)) (ds := []) #[false, false, false] (by kernel_rfl) rfl rfl ⟨(blk_cell BK136.out 0).trans rfl, (blk_cell BK136.out 1).trans rfl, (blk_cell BK136.out 2).trans rfl⟩ (fun hHeld => ?_)
    generalize w53.drew = w54 at BK131 BK132 BK136 HB hHeld ⊢
    refine pure_ (i := 1) (N := some 2) (v := ?_) (a' := ?_) #[false, true, false] rfl rfl (by kernel_rfl) (fun _ _ _ h => h) (Or.inl ⟨by rfl, ?_⟩) ?_ ?_
    rotate_left
    · intro w'
      go_simp
      with_reducible rfl
    rotate_left
    · simp only [Act.put, List.setIfInBounds_toArray, List.set_cons_zero, List.set_cons_succ, i64_w, i32_w]
      rfl
    refine take_ (i := 0) (N := some 10) (v := ?_) (a' := ?_) #[true, true, false] rfl rfl (by kernel_rfl) (fun _ _ _ h => h) (Or.inl ⟨by rfl, ?_⟩) hHeld ?_ ?_
    rotate_left
    · rintro w' ⟨s0, s1, s2⟩
      go_simp
      with_reducible rfl
    rotate_left
    · simp only [Act.put, List.setIfInBounds_toArray, List.set_cons_zero, List.set_cons_succ, i64_w, i32_w]
      rfl
    refine one_ (i := 2) (N := none) #[true, true, true] rfl rfl (by kernel_rfl) (by decide) (fun K hK => ?_)
    have hs55 : w54.cell? ⟨gb132, 0, none⟩ = some (.int .i64 0) := (blk_cell BK132.out 0).trans rfl
    have hfs55 := blk_frozen BK132.out 0
    have hns55_0 := NB131_132.out
    have hns55_2 := NB136_132.out
    have hms55_0 := NB132_131.out
    have hms55_2 := NB132_136.out
    have hs56 : w54.cell? ⟨gb132, 1, none⟩ = some (.int .i64 0) := (blk_cell BK132.out 1).trans rfl
    have hfs56 := blk_frozen BK132.out 1
    have hns56_0 := NB131_132.out
    have hns56_2 := NB136_132.out
    have hms56_0 := NB132_131.out
    have hms56_2 := NB132_136.out
    have hs57 : w54.cell? ⟨gb132, 2, none⟩ = some (.string (⟨#[]⟩ : ByteArray)) := (blk_cell BK132.out 2).trans rfl
    have hfs57 := blk_frozen BK132.out 2
    have hns57_0 := NB131_132.out
    have hns57_2 := NB136_132.out
    have hms57_0 := NB132_131.out
    have hms57_2 := NB132_136.out
    refine skip_ (w1 := ?_) (by rfl) rfl ?_ ?_
    rotate_left
    · go_simp
      rfl
    refine hK.out _ _ ⟨((cell_far (p := ⟨gb132, _, none⟩) NB136_132.out _).trans (((cell_far (p := ⟨gb132, _, none⟩) NB136_132.out _).trans (((cell_far (p := ⟨gb132, _, none⟩) NB136_132.out _).trans (hHeld.1)))))), ((cell_far (p := ⟨gb132, _, none⟩) NB136_132.out _).trans (((cell_far (p := ⟨gb132, _, none⟩) NB136_132.out _).trans (((cell_far (p := ⟨gb132, _, none⟩) NB136_132.out _).trans (hHeld.2.1)))))), ((cell_far (p := ⟨gb132, _, none⟩) NB136_132.out _).trans (((cell_far (p := ⟨gb132, _, none⟩) NB136_132.out _).trans (((cell_far (p := ⟨gb132, _, none⟩) NB136_132.out _).trans (hHeld.2.2))))))⟩ (fun hHeld => ?_)
    clear hK K
    refine done_ (by kernel_rfl) ?_
    try go_wp2
    refine bodyPost_ret (results_tc rfl _ _ gb132 23 #[.int .i64 t133, .int .i64 t134, .string t135] (0, 0) _ rfl (by (with_reducible repeat (first | refine blk_drewN ?_ _ | refine blk_drew ?_ | refine blk_alloc ?_ _)); refine blk_put (cs := #[.int .i64 t133, .int .i64 t134, .string (⟨#[]⟩ : ByteArray)]) ?_ 2 _ rfl; (with_reducible repeat (first | refine blk_drewN ?_ _ | refine blk_drew ?_ | refine blk_alloc ?_ _)); refine blk_put (cs := #[.int .i64 t133, .int .i64 0, .string (⟨#[]⟩ : ByteArray)]) ?_ 1 _ rfl; (with_reducible repeat (first | refine blk_drewN ?_ _ | refine blk_drew ?_ | refine blk_alloc ?_ _)); refine blk_put (cs := #[.int .i64 0, .int .i64 0, .string (⟨#[]⟩ : ByteArray)]) ?_ 0 _ rfl; (with_reducible repeat (first | refine blk_drewN ?_ _ | refine blk_drew ?_ | refine blk_alloc ?_ _)); exact BK132.out) Tryd.underlying23 rfl (by kernel_rfl)) rfl ?_
    exact ⟨by first | rfl | (simp [errW_none, errW_some] <;> rfl) | (simp [*, errW_none, errW_some] <;> rfl), by repeat first | with_reducible exact HB.out | apply zS | refine below_set ?_ GE131.out | refine below_set ?_ GE132.out | refine below_set ?_ GE136.out | exact HB.out⟩
end Go.Proofs.YtmdmpafdpgdpoaaDoor.P

namespace Go.Proofs.YtmdmpafdpgdpoaaDoor.P
open Go.RowKit Go.Proofs.YtmdmpafdpgdpoaaDoorW.PrintWords Go.Proofs.YtmdmpafdpgdpoaaDoorW.PrintLast Go.Proofs.YtmdmpafdpgdpoaaDoorW.PrintMore
attribute [local go_sem] max2_int min2_int max_two min_two max_three min_three max_four min_four   -- for this text's walks alone
set_option linter.unusedVariables false
set_option linter.unusedSimpArgs false
def fold_truth.f (a0 : Bool) : Option (Int × Int × ByteArray) := if a0 = true then (some (1, 1, (⟨#[]⟩ : ByteArray))) else (some (1, 0, (⟨#[]⟩ : ByteArray)))
set_option maxHeartbeats 8000000 in
set_option maxRecDepth 100000 in
theorem fold_truth.calls (a0 : Bool) (r1 : Int) (r2 : Int) (r3 : ByteArray) (w : World) (h : fold_truth.f a0 = some (r1, r2, r3)) :
    Calls Tryd.prog 62 #[.bool a0] w fun e w' => e = .returned (.agg #[.int .i64 r1, .int .i64 r2, .string r3]) ∧ Below w.heap.size w w' := by
  have hu23 := Tryd.underlying23
  have HB := Aside0.mk (Below.refl w.heap.size w)
  have H : (if a0 = true then (some (1, 1, (⟨#[]⟩ : ByteArray))) else (some (1, 0, (⟨#[]⟩ : ByteArray)))) = some (r1, r2, r3) := h
  clear h
  by_cases c2 : a0 = true
  · subst c2
    have H1 : (some (1, 1, (⟨#[]⟩ : ByteArray))) = some (r1, r2, r3) := by rw [if_pos rfl] at H; exact H
    clear H
    have H := H1
    clear H1
    simp only [Option.some.injEq, Prod.mk.injEq] at H
    obtain ⟨rfl, rfl, rfl⟩ := H
    go_enter Tryd.func62, Tryd.ntmps62
    go_wp2_with (first | ((with_reducible refine gate_dst (N := 2) rfl ?_); refine box_event ?hg (N := 2) ?hd (cs := #[.int .i64 0, .int .i64 0, .string (⟨#[]⟩ : ByteArray)]) (t := 23) ?hr ?_; (case hd => rfl); (case hg => rfl); (case hr => first | (go_simp; done) | (go_simp; rfl)); intro gb140 hg w3 hbox hb; have n0_ := Aside0.mk (below_step (by repeat first | with_reducible exact HB.out | apply zS | exact HB.out) hb); have n1_ := Aside0.mk (hbox); have n2_ := Aside0.mk ((by rw [hg]; exact (below_size (by repeat first | with_reducible exact HB.out | apply zS | exact HB.out)) : w.heap.size ≤ gb140)); have n3_ := n2_; clear HB; have HB := n0_; have BK140 := n1_; have GW140 := n2_; have GE140 := n3_; clear n0_ n1_ n2_ n3_; clear hb hbox hg; obtain ⟨hcz4_0, hcz4_1, hcz4_2, hfz4_0, hfz4_1, hfz4_2⟩ := zC3 BK140.out))
    refine bodyPost_ret (results_cell_row rfl _ _ gb140 23 #[.int .i64 1, .int .i64 1, .string (⟨#[]⟩ : ByteArray)] (0, 0) _ rfl (by refine zB ?_; refine blk_put (cs := #[.int .i64 1, .int .i64 1, .string (⟨#[]⟩ : ByteArray)]) ?_ 2 _ rfl; refine zB ?_; refine blk_put (cs := #[.int .i64 1, .int .i64 0, .string (⟨#[]⟩ : ByteArray)]) ?_ 1 _ rfl; refine zB ?_; refine blk_put (cs := #[.int .i64 0, .int .i64 0, .string (⟨#[]⟩ : ByteArray)]) ?_ 0 _ rfl; refine zB ?_; exact BK140.out) Tryd.underlying23 rfl (by kernel_rfl)) rfl ?_
    exact ⟨by first | rfl | (simp [errW_none, errW_some] <;> rfl) | (simp [*, errW_none, errW_some] <;> rfl), by repeat first | with_reducible exact HB.out | apply zS | refine below_set ?_ GE140.out | exact HB.out⟩
  · replace c2 := Bool.eq_false_iff.mpr c2
    subst c2
    have H1 : (some (1, 0, (⟨#[]⟩ : ByteArray))) = some (r1, r2, r3) := by rw [if_neg (show ¬ (false = true) by decide)] at H; exact H
    clear H
    have H := H1
    clear H1
    simp only [Option.some.injEq, Prod.mk.injEq] at H
    obtain ⟨rfl, rfl, rfl⟩ := H
    go_enter Tryd.func62, Tryd.ntmps62
    go_wp2_with (first | ((with_reducible refine gate_dst (N := 2) rfl ?_); refine box_event ?hg (N := 2) ?hd (cs := #[.int .i64 0, .int .i64 0, .string (⟨#[]⟩ : ByteArray)]) (t := 23) ?hr ?_; (case hd => rfl); (case hg => rfl); (case hr => first | (go_simp; done) | (go_simp; rfl)); intro gb140 hg w5 hbox hb; have n0_ := Aside0.mk (below_step (by repeat first | with_reducible exact HB.out | apply zS | exact HB.out) hb); have n1_ := Aside0.mk (hbox); have n2_ := Aside0.mk ((by rw [hg]; exact (below_size (by repeat first | with_reducible exact HB.out | apply zS | exact HB.out)) : w.heap.size ≤ gb140)); have n3_ := n2_; clear HB; have HB := n0_; have BK140 := n1_; have GW140 := n2_; have GE140 := n3_; clear n0_ n1_ n2_ n3_; clear hb hbox hg; obtain ⟨hcz6_0, hcz6_1, hcz6_2, hfz6_0, hfz6_1, hfz6_2⟩ := zC3 BK140.out))
    refine bodyPost_ret (results_cell_row rfl _ _ gb140 23 #[.int .i64 1, .int .i64 0, .string (⟨#[]⟩ : ByteArray)] (0, 0) _ rfl (by refine zB ?_; refine blk_put (cs := #[.int .i64 1, .int .i64 0, .string (⟨#[]⟩ : ByteArray)]) ?_ 2 _ rfl; refine zB ?_; refine blk_put (cs := #[.int .i64 1, .int .i64 0, .string (⟨#[]⟩ : ByteArray)]) ?_ 1 _ rfl; refine zB ?_; refine blk_put (cs := #[.int .i64 0, .int .i64 0, .string (⟨#[]⟩ : ByteArray)]) ?_ 0 _ rfl; refine zB ?_; exact BK140.out) Tryd.underlying23 rfl (by kernel_rfl)) rfl ?_
    exact ⟨by first | rfl | (simp [errW_none, errW_some] <;> rfl) | (simp [*, errW_none, errW_some] <;> rfl), by repeat first | with_reducible exact HB.out | apply zS | refine below_set ?_ GE140.out | exact HB.out⟩
end Go.Proofs.YtmdmpafdpgdpoaaDoor.P

namespace Go.Proofs.YtmdmpafdpgdpoaaDoor.P
open Go.RowKit Go.Proofs.YtmdmpafdpgdpoaaDoorW.PrintWords Go.Proofs.YtmdmpafdpgdpoaaDoorW.PrintLast Go.Proofs.YtmdmpafdpgdpoaaDoorW.PrintMore
attribute [local go_sem] max2_int min2_int max_two min_two max_three min_three max_four min_four   -- for this text's walks alone
set_option linter.unusedVariables false
set_option linter.unusedSimpArgs false
def fold_flags.l0 : Nat → Bool → Bool → List (S23) → Int → Int → Option (Int × Int × ByteArray)
  | 0, _, _, _, _, _ => none
  | k + 1, x1, x5, x11, x12, x13 => if x13 < x12 then (if 0 ≤ x13 then (if x13 < (x11.length : Int) then ((value_Flag.f k ((rd_T23 x11 x13).f0) ((rd_T23 x11 x13).f1) ((rd_T23 x11 x13).f2)).bind fun bt147 => (if bt147.2.1 = 0 then (if x1 = true then (if x5 = true then (fold_flags.l0 k x1 bt147.1 x11 x12 (wrap64 (x13 + 1))) else (fold_flags.l0 k x1 false x11 x12 (wrap64 (x13 + 1)))) else (if x5 = true then (fold_flags.l0 k x1 true x11 x12 (wrap64 (x13 + 1))) else (fold_flags.l0 k x1 bt147.1 x11 x12 (wrap64 (x13 + 1))))) else (some (bt147.2.1, bt147.2.2.1, bt147.2.2.2)))) else (none)) else (none)) else ((fold_truth.f x5).bind fun bt142 => (some (bt142.1, bt142.2.1, bt142.2.2)))
def fold_flags.f (k : Nat) (l0 : List (S23)) (a1 : Bool) : Option (Int × Int × ByteArray) := fold_flags.l0 k a1 a1 l0 (l0.length : Int) 0
set_option maxHeartbeats 8000000 in
set_option maxRecDepth 100000 in
theorem fold_flags.calls (k : Nat) (A0 : Option Addr) (c0 : Nat) (l0 : List (S23)) (a1 : Bool) (r1 : Int) (r2 : Int) (r3 : ByteArray) (w : World) (hr0 : Kd.C k23 w A0 l0.length l0) (hc0 : l0.length ≤ c0) (h : fold_flags.f k l0 a1 = some (r1, r2, r3)) :
    Calls Tryd.prog 45 #[.slice A0 l0.length c0, .bool a1] w fun e w' => e = .returned (.agg #[.int .i64 r1, .int .i64 r2, .string r3]) ∧ Below w.heap.size w w' := by
  have hu23 := Tryd.underlying23
  have HR0 := Aside0.mk hr0
  have HC0 := Aside0.mk hc0
  clear hr0 hc0
  have HB := Aside0.mk (Below.refl w.heap.size w)
  have H : (fold_flags.l0 k a1 a1 l0 (l0.length : Int) 0) = some (r1, r2, r3) := h
  clear h
  have H' := Aside0.mk H
  clear H
  go_enter Tryd.func45, Tryd.ntmps45
  go_wp2_with (first | ((with_reducible refine gate_dst (N := 4) rfl ?_); refine box_event ?hg (N := 4) ?hd (cs := #[.int .i64 0, .int .i64 0, .string (⟨#[]⟩ : ByteArray)]) (t := 23) ?hr ?_; (case hd => rfl); (case hg => rfl); (case hr => first | (go_simp; done) | (go_simp; rfl)); intro gb141 hg w3 hbox hb; have n0_ := Aside0.mk (below_step (by repeat first | with_reducible exact HB.out | apply zS | exact HB.out) hb); have n1_ := Aside0.mk (hbox); have n2_ := Aside0.mk ((by rw [hg]; exact (below_size (by repeat first | with_reducible exact HB.out | apply zS | exact HB.out)) : w.heap.size ≤ gb141)); have n3_ := n2_; clear HB; have HB := n0_; have BK141 := n1_; have GW141 := n2_; have GE141 := n3_; clear n0_ n1_ n2_ n3_; clear hb hbox hg))
  go_loopg [5, 13] k (fun kq v5 v13 w' => ∃ (x5_1 : Bool) (x13_1 : Int) (x142000_1 : Int) (x142001_1 : Int) (x142002_1 : ByteArray), v5 = .bool x5_1 ∧ v13 = .int .i64 x13_1 ∧ Aside0 (fold_flags.l0 kq a1 x5_1 l0 (l0.length : Int) x13_1 = some (r1, r2, r3)) ∧ Aside0 (kq ≤ k) ∧ Aside0 (w'.heap[gb141]? = some (.cells #[.int .i64 x142000_1, .int .i64 x142001_1, .string x142002_1] 23 (0, 0))) ∧ Aside0 (Below w.heap.size w w'))
  case atStart => exact ⟨(a1), (0), (0), (0), ((⟨#[]⟩ : ByteArray)), (by first | rfl | (simp; done) | (simp [*]; done)), (by first | rfl | (simp; done) | (simp [*]; done)), H', ⟨Nat.le_refl _⟩, ⟨by exact zB BK141.out⟩, ⟨by repeat first | with_reducible exact HB.out | apply zS | refine below_set ?_ GE141.out | exact HB.out⟩⟩
  case round =>
    clear H'
    try clear p2
    obtain ⟨x5_1, x13_1, x142000_1, x142001_1, x142002_1, rfl, rfl, HA, HK1, BK141, HB⟩ := hrel
    cases gk with
    | zero => exact absurd HA.out (by simp [fold_flags.l0])
    | succ k1 =>
      have H := HA.out
      clear HA
      simp only [fold_flags.l0] at H
      by_cases c4 : x13_1 < (l0.length : Int)
      · rw [if_pos c4] at H
        have c4b0 : decide (x13_1 < (l0.length : Int)) = true := decide_eq_true c4
        clear c4
        by_cases c5 : 0 ≤ x13_1
        · rw [if_pos c5] at H
          have c5b0 : decide (0 ≤ x13_1) = true := decide_eq_true c5
          clear c5
          by_cases c6 : x13_1 < (l0.length : Int)
          · rw [if_pos c6] at H
            have c6b0 : decide (x13_1 < (l0.length : Int)) = true := decide_eq_true c6
            clear c6
            replace H := Option.bind_eq_some_iff.mp H
            obtain ⟨⟨t147, t148, t149, t150⟩, A70, H⟩ := H
            replace H : (if t148 = 0 then (if a1 = true then (if x5_1 = true then (fold_flags.l0 k1 a1 t147 l0 (l0.length : Int) (wrap64 (x13_1 + 1))) else (fold_flags.l0 k1 a1 false l0 (l0.length : Int) (wrap64 (x13_1 + 1)))) else (if x5_1 = true then (fold_flags.l0 k1 a1 true l0 (l0.length : Int) (wrap64 (x13_1 + 1))) else (fold_flags.l0 k1 a1 t147 l0 (l0.length : Int) (wrap64 (x13_1 + 1))))) else (some (t148, t149, t150))) = some (r1, r2, r3) := H
            have A7 := Aside0.mk A70
            clear A70
            by_cases c8 : t148 = 0
            · rw [if_pos c8] at H
              have c8b0 : (t148 == 0) = true := beq_iff_eq.mpr c8
              have c8b1 : (t148 != 0) = false := bne_eq_false_iff_eq.mpr c8
              clear c8
              by_cases c9 : a1 = true
              · subst c9
                have H1 : (if x5_1 = true then (fold_flags.l0 k1 true t147 l0 (l0.length : Int) (wrap64 (x13_1 + 1))) else (fold_flags.l0 k1 true false l0 (l0.length : Int) (wrap64 (x13_1 + 1)))) = some (r1, r2, r3) := by rw [if_pos rfl] at H; exact H
                clear H
                have H := H1
                clear H1
                by_cases c10 : x5_1 = true
                · subst c10
                  have H1 : (fold_flags.l0 k1 true t147 l0 (l0.length : Int) (wrap64 (x13_1 + 1))) = some (r1, r2, r3) := by rw [if_pos rfl] at H; exact H
                  clear H
                  have H := H1
                  clear H1
                  have H' := Aside0.mk H
                  clear H
                  have p145 : 0 ≤ (x13_1 : Int) := of_decide_eq_true (by first | (with_reducible assumption) | assumption)
                  have q145 : x13_1 < (l0.length : Int) := of_decide_eq_true (by first | (with_reducible assumption) | assumption)
                  obtain ⟨ad145, e145, hx145_0, hx145_1, hx145_2⟩ := at_T23 HR0.out x13_1 p145 q145
                  cases e145
                  replace hx145_0 := (HB.out.cell (World.block_lt_of_cell? w _ hx145_0)).trans hx145_0
                  replace hx145_1 := (HB.out.cell (World.block_lt_of_cell? w _ hx145_1)).trans hx145_1
                  replace hx145_2 := (HB.out.cell (World.block_lt_of_cell? w _ hx145_2)).trans hx145_2
                  replace p145 := eq_true p145
                  replace q145 := eq_true q145
                  go_wp2_with (first | ((with_reducible refine gate_dst (N := 7) rfl ?_); refine box_event ?hg (N := 7) ?hd (cs := #[.int .i64 0, .int .i64 0, .string (⟨#[]⟩ : ByteArray)]) (t := 23) ?hr ?_; (case hd => rfl); (case hg => rfl); (case hr => first | (go_simp; done) | (go_simp; rfl)); intro gb146 hg w11 hbox hb; have n0_ := Aside0.mk (blk_below (g := gb141) (o := .cells #[.int .i64 x142000_1, .int .i64 x142001_1, .string x142002_1] 23 (0, 0)) (zB BK141.out) hb); have n1_ := Aside0.mk (below_step (by repeat first | with_reducible exact HB.out | apply zS | refine below_set ?_ GE141.out | exact HB.out) hb); have n2_ := Aside0.mk (hbox); have n3_ := Aside0.mk ((by rw [hg]; exact (below_size (by repeat first | with_reducible exact HB.out | apply zS | refine below_set ?_ GE141.out | exact HB.out)) : w.heap.size ≤ gb146)); have n4_ := n3_; have n5_ := Aside0.mk ((by rw [hg]; exact Nat.ne_of_lt (blk_lt (g := gb141) (o := .cells #[.int .i64 x142000_1, .int .i64 x142001_1, .string x142002_1] 23 (0, 0)) (zB BK141.out)) : gb141 ≠ gb146)); have n6_ := Aside0.mk ((by rw [hg]; exact Nat.ne_of_gt (blk_lt (g := gb141) (o := .cells #[.int .i64 x142000_1, .int .i64 x142001_1, .string x142002_1] 23 (0, 0)) (zB BK141.out)) : gb146 ≠ gb141)); clear BK141; clear HB; have BK141 := n0_; have HB := n1_; have BK146 := n2_; have GW146 := n3_; have GE146 := n4_; have NB141_146 := n5_; have NB146_141 := n6_; clear n0_ n1_ n2_ n3_ n4_ n5_ n6_; clear hb hbox hg; have hnb12 := NB146_141.out; have hnc12 := NB141_146.out; obtain ⟨hcz13_0, hcz13_1, hcz13_2, hfz13_0, hfz13_1, hfz13_2⟩ := zC3 BK146.out) | ((with_reducible refine gate_callee (f := 61) rfl ?_); refine goesL_ (some 19) rfl rfl Tryd.func61 (by kernel_rfl) rfl #[.agg #[.int .i64 ((rd_T23 l0 x13_1).f0), .int .i64 ((rd_T23 l0 x13_1).f1), .string ((rd_T23 l0 x13_1).f2)]] rfl (by (try simp only [List.map_toArray, List.map_cons, List.map_nil]); first | done | rfl | (simp only [List.length_drop, List.length_take]; rfl)) ?_; (with_reducible refine (value_Flag.calls k1 ((rd_T23 l0 x13_1).f0) ((rd_T23 l0 x13_1).f1) ((rd_T23 l0 x13_1).f2) t147 t148 t149 t150 _ A7.out).mono ?_); rintro e w14 ⟨rfl, hb⟩; refine ⟨_, rfl, ?_⟩; have n0_ := Aside0.mk (blk_below (g := gb141) (o := .cells #[.int .i64 x142000_1, .int .i64 x142001_1, .string x142002_1] 23 (0, 0)) (by refine zB (blk_far ?_ NB141_146.out _); refine zB ?_; refine blk_far ?_ NB141_146.out _; refine zB (blk_far ?_ NB141_146.out _); refine zB ?_; exact BK141.out) hb); have n1_ := Aside0.mk (blk_below (g := gb146) (o := .cells #[.int .i64 ((rd_T23 l0 x13_1).f0), .int .i64 ((rd_T23 l0 x13_1).f1), .string ((rd_T23 l0 x13_1).f2)] 23 (0, 0)) (by refine zB ?_; refine blk_put (cs := #[.int .i64 ((rd_T23 l0 x13_1).f0), .int .i64 ((rd_T23 l0 x13_1).f1), .string (⟨#[]⟩ : ByteArray)]) ?_ 2 _ rfl; refine zB ?_; refine blk_put (cs := #[.int .i64 ((rd_T23 l0 x13_1).f0), .int .i64 0, .string (⟨#[]⟩ : ByteArray)]) ?_ 1 _ rfl; refine zB ?_; refine blk_put (cs := #[.int .i64 0, .int .i64 0, .string (⟨#[]⟩ : ByteArray)]) ?_ 0 _ rfl; refine zB ?_; exact BK146.out) hb); have n2_ := Aside0.mk (below_step (by repeat first | with_reducible exact HB.out | apply zS | refine below_set ?_ GE141.out | refine below_set ?_ GE146.out | exact HB.out) hb); clear BK141; clear BK146; clear HB; have BK141 := n0_; have BK146 := n1_; have HB := n2_; clear n0_ n1_ n2_; (try clear hb); (try clear hb2); (try clear hk); (try clear hi)) | ((with_reducible refine gate_dst (N := 9) rfl ?_); refine box_event ?hg (N := 9) ?hd (cs := #[.int .i64 0, .int .i64 0, .string (⟨#[]⟩ : ByteArray)]) (t := 23) ?hr ?_; (case hd => rfl); (case hg => rfl); (case hr => first | (go_simp; done) | (go_simp; rfl)); intro gb151 hg w15 hbox hb; have n0_ := Aside0.mk (blk_below (g := gb141) (o := .cells #[.int .i64 x142000_1, .int .i64 x142001_1, .string x142002_1] 23 (0, 0)) (zB BK141.out) hb); have n1_ := Aside0.mk (blk_below (g := gb146) (o := .cells #[.int .i64 ((rd_T23 l0 x13_1).f0), .int .i64 ((rd_T23 l0 x13_1).f1), .string ((rd_T23 l0 x13_1).f2)] 23 (0, 0)) (zB BK146.out) hb); have n2_ := Aside0.mk (below_step (by repeat first | with_reducible exact HB.out | apply zS | refine below_set ?_ GE141.out | refine below_set ?_ GE146.out | exact HB.out) hb); have n3_ := Aside0.mk (hbox); have n4_ := Aside0.mk ((by rw [hg]; exact (below_size (by repeat first | with_reducible exact HB.out | apply zS | refine below_set ?_ GE141.out | refine below_set ?_ GE146.out | exact HB.out)) : w.heap.size ≤ gb151)); have n5_ := n4_; have n6_ := Aside0.mk ((by rw [hg]; exact Nat.ne_of_lt (blk_lt (g := gb141) (o := .cells #[.int .i64 x142000_1, .int .i64 x142001_1, .string x142002_1] 23 (0, 0)) (zB BK141.out)) : gb141 ≠ gb151)); have n7_ := Aside0.mk ((by rw [hg]; exact Nat.ne_of_gt (blk_lt (g := gb141) (o := .cells #[.int .i64 x142000_1, .int .i64 x142001_1, .string x142002_1] 23 (0, 0)) (zB BK141.out)) : gb151 ≠ gb141)); have n8_ := Aside0.mk ((by rw [hg]; exact Nat.ne_of_lt (blk_lt (g := gb146) (o := .cells #[.int .i64 ((rd_T23 l0 x13_1).f0), .int .i64 ((rd_T23 l0 x13_1).f1), .string ((rd_T23 l0 x13_1).f2)] 23 (0, 0)) (zB BK146.out)) : gb146 ≠ gb151)); have n9_ := Aside0.mk ((by rw [hg]; exact Nat.ne_of_gt (blk_lt (g := gb146) (o := .cells #[.int .i64 ((rd_T23 l0 x13_1).f0), .int .i64 ((rd_T23 l0 x13_1).f1), .string ((rd_T23 l0 x13_1).f2)] 23 (0, 0)) (zB BK146.out)) : gb151 ≠ gb146)); clear BK141; clear BK146; clear HB; have BK141 := n0_; have BK146 := n1_; have HB := n2_; have BK151 := n3_; have GW151 := n4_; have GE151 := n5_; have NB141_151 := n6_; have NB151_141 := n7_; have NB146_151 := n8_; have NB151_146 := n9_; clear n0_ n1_ n2_ n3_ n4_ n5_ n6_ n7_ n8_ n9_; clear hb hbox hg; have hnb16 := NB151_141.out; have hnc16 := NB141_151.out; have hnb17 := NB151_146.out; have hnc17 := NB146_151.out; obtain ⟨hcz18_0, hcz18_1, hcz18_2, hfz18_0, hfz18_1, hfz18_2⟩ := zC3 BK151.out))
                  go_roundg k1
                  case measure => have := HK1.out; omega
                  case rel => exact ⟨(t147), (wrap64 (x13_1 + 1)), (x142000_1), (x142001_1), (x142002_1), (by first | rfl | (simp; done) | (simp [*]; done)), (by first | rfl | (simp; done) | (simp [*]; done)), H', ⟨by have := HK1.out; omega⟩, ⟨by refine zB (blk_far ?_ NB141_151.out _); refine zB ?_; refine blk_far ?_ NB141_151.out _; refine zB (blk_far ?_ NB141_151.out _); refine zB ?_; exact BK141.out⟩, ⟨by repeat first | with_reducible exact HB.out | apply zS | refine below_set ?_ GE141.out | refine below_set ?_ GE146.out | refine below_set ?_ GE151.out | exact HB.out⟩⟩
                · replace c10 := Bool.eq_false_iff.mpr c10
                  subst c10
                  have H1 : (fold_flags.l0 k1 true false l0 (l0.length : Int) (wrap64 (x13_1 + 1))) = some (r1, r2, r3) := by rw [if_neg (show ¬ (false = true) by decide)] at H; exact H
                  clear H
                  have H := H1
                  clear H1
                  have H' := Aside0.mk H
                  clear H
                  have p145 : 0 ≤ (x13_1 : Int) := of_decide_eq_true (by first | (with_reducible assumption) | assumption)
                  have q145 : x13_1 < (l0.length : Int) := of_decide_eq_true (by first | (with_reducible assumption) | assumption)
                  obtain ⟨ad145, e145, hx145_0, hx145_1, hx145_2⟩ := at_T23 HR0.out x13_1 p145 q145
                  cases e145
                  replace hx145_0 := (HB.out.cell (World.block_lt_of_cell? w _ hx145_0)).trans hx145_0
                  replace hx145_1 := (HB.out.cell (World.block_lt_of_cell? w _ hx145_1)).trans hx145_1
                  replace hx145_2 := (HB.out.cell (World.block_lt_of_cell? w _ hx145_2)).trans hx145_2
                  replace p145 := eq_true p145
                  replace q145 := eq_true q145
                  go_wp2_with (first | ((with_reducible refine gate_dst (N := 7) rfl ?_); refine box_event ?hg (N := 7) ?hd (cs := #[.int .i64 0, .int .i64 0, .string (⟨#[]⟩ : ByteArray)]) (t := 23) ?hr ?_; (case hd => rfl); (case hg => rfl); (case hr => first | (go_simp; done) | (go_simp; rfl)); intro gb146 hg w19 hbox hb; have n0_ := Aside0.mk (blk_below (g := gb141) (o := .cells #[.int .i64 x142000_1, .int .i64 x142001_1, .string x142002_1] 23 (0, 0)) (zB BK141.out) hb); have n1_ := Aside0.mk (below_step (by repeat first | with_reducible exact HB.out | apply zS | refine below_set ?_ GE141.out | exact HB.out) hb); have n2_ := Aside0.mk (hbox); have n3_ := Aside0.mk ((by rw [hg]; exact (below_size (by repeat first | with_reducible exact HB.out | apply zS | refine below_set ?_ GE141.out | exact HB.out)) : w.heap.size ≤ gb146)); have n4_ := n3_; have n5_ := Aside0.mk ((by rw [hg]; exact Nat.ne_of_lt (blk_lt (g := gb141) (o := .cells #[.int .i64 x142000_1, .int .i64 x142001_1, .string x142002_1] 23 (0, 0)) (zB BK141.out)) : gb141 ≠ gb146)); have n6_ := Aside0.mk ((by rw [hg]; exact Nat.ne_of_gt (blk_lt (g := gb141) (o := .cells #[.int .i64 x142000_1, .int .i64 x142001_1, .string x142002_1] 23 (0, 0)) (zB BK141.out)) : gb146 ≠ gb141)); clear BK141; clear HB; have BK141 := n0_; have HB := n1_; have BK146 := n2_; have GW146 := n3_; have GE146 := n4_; have NB141_146 := n5_; have NB146_141 := n6_; clear n0_ n1_ n2_ n3_ n4_ n5_ n6_; clear hb hbox hg; have hnb20 := NB146_141.out; have hnc20 := NB141_146.out; obtain ⟨hcz21_0, hcz21_1, hcz21_2, hfz21_0, hfz21_1, hfz21_2⟩ := zC3 BK146.out) | ((with_reducible refine gate_callee (f := 61) rfl ?_); refine goesL_ (some 19) rfl rfl Tryd.func61 (by kernel_rfl) rfl #[.agg #[.int .i64 ((rd_T23 l0 x13_1).f0), .int .i64 ((rd_T23 l0 x13_1).f1), .string ((rd_T23 l0 x13_1).f2)]] rfl (by (try simp only [List.map_toArray, List.map_cons, List.map_nil]); first | done | rfl | (simp only [List.length_drop, List.length_take]; rfl)) ?_; (with_reducible refine (value_Flag.calls k1 ((rd_T23 l0 x13_1).f0) ((rd_T23 l0 x13_1).f1) ((rd_T23 l0 x13_1).f2) t147 t148 t149 t150 _ A7.out).mono ?_); rintro e w22 ⟨rfl, hb⟩; refine ⟨_, rfl, ?_⟩; have n0_ := Aside0.mk (blk_below (g := gb141) (o := .cells #[.int .i64 x142000_1, .int .i64 x142001_1, .string x142002_1] 23 (0, 0)) (by refine zB (blk_far ?_ NB141_146.out _); refine zB ?_; refine blk_far ?_ NB141_146.out _; refine zB (blk_far ?_ NB141_146.out _); refine zB ?_; exact BK141.out) hb); have n1_ := Aside0.mk (blk_below (g := gb146) (o := .cells #[.int .i64 ((rd_T23 l0 x13_1).f0), .int .i64 ((rd_T23 l0 x13_1).f1), .string ((rd_T23 l0 x13_1).f2)] 23 (0, 0)) (by refine zB ?_; refine blk_put (cs := #[.int .i64 ((rd_T23 l0 x13_1).f0), .int .i64 ((rd_T23 l0 x13_1).f1), .string (⟨#[]⟩ : ByteArray)]) ?_ 2 _ rfl; refine zB ?_; refine blk_put (cs := #[.int .i64 ((rd_T23 l0 x13_1).f0), .int .i64 0, .string (⟨#[]⟩ : ByteArray)]) ?_ 1 _ rfl; refine zB ?_; refine blk_put (cs := #[.int .i64 0, .int .i64 0, .string (⟨#[]⟩ : ByteArray)]) ?_ 0 _ rfl; refine zB ?_; exact BK146.out) hb); have n2_ := Aside0.mk (below_step (by repeat first | with_reducible exact HB.out | apply zS | refine below_set ?_ GE141.out | refine below_set ?_ GE146.out | exact HB.out) hb); clear BK141; clear BK146; clear HB; have BK141 := n0_; have BK146 := n1_; have HB := n2_; clear n0_ n1_ n2_; (try clear hb); (try clear hb2); (try clear hk); (try clear hi)) | ((with_reducible refine gate_dst (N := 9) rfl ?_); refine box_event ?hg (N := 9) ?hd (cs := #[.int .i64 0, .int .i64 0, .string (⟨#[]⟩ : ByteArray)]) (t := 23) ?hr ?_; (case hd => rfl); (case hg => rfl); (case hr => first | (go_simp; done) | (go_simp; rfl)); intro gb151 hg w23 hbox hb; have n0_ := Aside0.mk (blk_below (g := gb141) (o := .cells #[.int .i64 x142000_1, .int .i64 x142001_1, .string x142002_1] 23 (0, 0)) (zB BK141.out) hb); have n1_ := Aside0.mk (blk_below (g := gb146) (o := .cells #[.int .i64 ((rd_T23 l0 x13_1).f0), .int .i64 ((rd_T23 l0 x13_1).f1), .string ((rd_T23 l0 x13_1).f2)] 23 (0, 0)) (zB BK146.out) hb); have n2_ := Aside0.mk (below_step (by repeat first | with_reducible exact HB.out | apply zS | refine below_set ?_ GE141.out | refine below_set ?_ GE146.out | exact HB.out) hb); have n3_ := Aside0.mk (hbox); have n4_ := Aside0.mk ((by rw [hg]; exact (below_size (by repeat first | with_reducible exact HB.out | apply zS | refine below_set ?_ GE141.out | refine below_set ?_ GE146.out | exact HB.out)) : w.heap.size ≤ gb151)); have n5_ := n4_; have n6_ := Aside0.mk ((by rw [hg]; exact Nat.ne_of_lt (blk_lt (g := gb141) (o := .cells #[.int .i64 x142000_1, .int .i64 x142001_1, .string x142002_1] 23 (0, 0)) (zB BK141.out)) : gb141 ≠ gb151)); have n7_ := Aside0.mk ((by rw [hg]; exact Nat.ne_of_gt (blk_lt (g := gb141) (o := .cells #[.int .i64 x142000_1, .int .i64 x142001_1, .string x142002_1] 23 (0, 0)) (zB BK141.out)) : gb151 ≠ gb141)); have n8_ := Aside0.mk ((by rw [hg]; exact Nat.ne_of_lt (blk_lt (g := gb146) (o := .cells #[.int .i64 ((rd_T23 l0 x13_1).f0), .int .i64 ((rd_T23 l0 x13_1).f1), .string ((rd_T23 l0 x13_1).f2)] 23 (0, 0)) (zB BK146.out)) : gb146 ≠ gb151)); have n9_ := Aside0.mk ((by rw [hg]; exact Nat.ne_of_gt (blk_lt (g := gb146) (o := .cells #[.int .i64 ((rd_T23 l0 x13_1).f0), .int .i64 ((rd_T23 l0 x13_1).f1), .string ((rd_T23 l0 x13_1).f2)] 23 (0, 0)) (zB BK146.out)) : gb151 ≠ gb146)); clear BK141; clear BK146; clear HB; have BK141 := n0_; have BK146 := n1_; have HB := n2_; have BK151 := n3_; have GW151 := n4_; have GE151 := n5_; have NB141_151 := n6_; have NB151_141 := n7_; have NB146_151 := n8_; have NB151_146 := n9_; clear n0_ n1_ n2_ n3_ n4_ n5_ n6_ n7_ n8_ n9_; clear hb hbox hg; have hnb24 := NB151_141.out; have hnc24 := NB141_151.out; have hnb25 := NB151_146.out; have hnc25 := NB146_151.out; obtain ⟨hcz26_0, hcz26_1, hcz26_2, hfz26_0, hfz26_1, hfz26_2⟩ := zC3 BK151.out))
                  go_roundg k1
                  case measure => have := HK1.out; omega
                  case rel => exact ⟨(false), (wrap64 (x13_1 + 1)), (x142000_1), (x142001_1), (x142002_1), (by first | rfl | (simp; done) | (simp [*]; done)), (by first | rfl | (simp; done) | (simp [*]; done)), H', ⟨by have := HK1.out; omega⟩, ⟨by refine zB (blk_far ?_ NB141_151.out _); refine zB ?_; refine blk_far ?_ NB141_151.out _; refine zB (blk_far ?_ NB141_151.out _); refine zB ?_; exact BK141.out⟩, ⟨by repeat first | with_reducible exact HB.out | apply zS | refine below_set ?_ GE141.out | refine below_set ?_ GE146.out | refine below_set ?_ GE151.out | exact HB.out⟩⟩
              · replace c9 := Bool.eq_false_iff.mpr c9
                subst c9
                have H1 : (if x5_1 = true then (fold_flags.l0 k1 false true l0 (l0.length : Int) (wrap64 (x13_1 + 1))) else (fold_flags.l0 k1 false t147 l0 (l0.length : Int) (wrap64 (x13_1 + 1)))) = some (r1, r2, r3) := by rw [if_neg (show ¬ (false = true) by decide)] at H; exact H
                clear H
                have H := H1
                clear H1
                by_cases c27 : x5_1 = true
                · subst c27
                  have H1 : (fold_flags.l0 k1 false true l0 (l0.length : Int) (wrap64 (x13_1 + 1))) = some (r1, r2, r3) := by rw [if_pos rfl] at H; exact H
                  clear H
                  have H := H1
                  clear H1
                  have H' := Aside0.mk H
                  clear H
                  have p145 : 0 ≤ (x13_1 : Int) := of_decide_eq_true (by first | (with_reducible assumption) | assumption)
                  have q145 : x13_1 < (l0.length : Int) := of_decide_eq_true (by first | (with_reducible assumption) | assumption)
                  obtain ⟨ad145, e145, hx145_0, hx145_1, hx145_2⟩ := at_T23 HR0.out x13_1 p145 q145
                  cases e145
                  replace hx145_0 := (HB.out.cell (World.block_lt_of_cell? w _ hx145_0)).trans hx145_0
                  replace hx145_1 := (HB.out.cell (World.block_lt_of_cell? w _ hx145_1)).trans hx145_1
                  replace hx145_2 := (HB.out.cell (World.block_lt_of_cell? w _ hx145_2)).trans hx145_2
                  replace p145 := eq_true p145
                  replace q145 := eq_true q145
                  go_wp2_with (first | ((with_reducible refine gate_dst (N := 7) rfl ?_); refine box_event ?hg (N := 7) ?hd (cs := #[.int .i64 0, .int .i64 0, .string (⟨#[]⟩ : ByteArray)]) (t := 23) ?hr ?_; (case hd => rfl); (case hg => rfl); (case hr => first | (go_simp; done) | (go_simp; rfl)); intro gb146 hg w28 hbox hb; have n0_ := Aside0.mk (blk_below (g := gb141) (o := .cells #[.int .i64 x142000_1, .int .i64 x142001_1, .string x142002_1] 23 (0, 0)) (zB BK141.out) hb); have n1_ := Aside0.mk (below_step (by repeat first | with_reducible exact HB.out | apply zS | refine below_set ?_ GE141.out | exact HB.out) hb); have n2_ := Aside0.mk (hbox); have n3_ := Aside0.mk ((by rw [hg]; exact (below_size (by repeat first | with_reducible exact HB.out | apply zS | refine below_set ?_ GE141.out | exact HB.out)) : w.heap.size ≤ gb146)); have n4_ := n3_; have n5_ := Aside0.mk ((by rw [hg]; exact Nat.ne_of_lt (blk_lt (g := gb141) (o := .cells #[.int .i64 x142000_1, .int .i64 x142001_1, .string x142002_1] 23 (0, 0)) (zB BK141.out)) : gb141 ≠ gb146)); have n6_ := Aside0.mk ((by rw [hg]; exact Nat.ne_of_gt (blk_lt (g := gb141) (o := .cells #[.int .i64 x142000_1, .int .i64 x142001_1, .string x142002_1] 23 (0, 0)) (zB BK141.out)) : gb146 ≠ gb141)); clear BK141; clear HB; have BK141 := n0_; have HB := n1_; have BK146 := n2_; have GW146 := n3_; have GE146 := n4_; have NB141_146 := n5_; have NB146_141 := n6_; clear n0_ n1_ n2_ n3_ n4_ n5_ n6_; clear hb hbox hg; have hnb29 := NB146_141.out; have hnc29 := NB141_146.out; obtain ⟨hcz30_0, hcz30_1, hcz30_2, hfz30_0, hfz30_1, hfz30_2⟩ := zC3 BK146.out) | ((with_reducible refine gate_callee (f := 61) rfl ?_); refine goesL_ (some 19) rfl rfl Tryd.func61 (by kernel_rfl) rfl #[.agg #[.int .i64 ((rd_T23 l0 x13_1).f0), .int .i64 ((rd_T23 l0 x13_1).f1), .string ((rd_T23 l0 x13_1).f2)]] rfl (by (try simp only [List.map_toArray, List.map_cons, List.map_nil]); first | done | rfl | (simp only [List.length_drop, List.length_take]; rfl)) ?_; (with_reducible refine (value_Flag.calls k1 ((rd_T23 l0 x13_1).f0) ((rd_T23 l0 x13_1).f1) ((rd_T23 l0 x13_1).f2) t147 t148 t149 t150 _ A7.out).mono ?_); rintro e w31 ⟨rfl, hb⟩; refine ⟨_, rfl, ?_⟩; have n0_ := Aside0.mk (blk_below (g := gb141) (o := .cells #[.int .i64 x142000_1, .int .i64 x142001_1, .string x142002_1] 23 (0, 0)) (by refine zB (blk_far ?_ NB141_146.out _); refine zB ?_; refine blk_far ?_ NB141_146.out _; refine zB (blk_far ?_ NB141_146.out _); refine zB ?_; exact BK141.out) hb); have n1_ := Aside0.mk (blk_below (g := gb146) (o := .cells #[.int .i64 ((rd_T23 l0 x13_1).f0), .int .i64 ((rd_T23 l0 x13_1).f1), .string ((rd_T23 l0 x13_1).f2)] 23 (0, 0)) (by refine zB ?_; refine blk_put (cs := #[.int .i64 ((rd_T23 l0 x13_1).f0), .int .i64 ((rd_T23 l0 x13_1).f1), .string (⟨#[]⟩ : ByteArray)]) ?_ 2 _ rfl; refine zB ?_; refine blk_put (cs := #[.int .i64 ((rd_T23 l0 x13_1).f0), .int .i64 0, .string (⟨#[]⟩ : ByteArray)]) ?_ 1 _ rfl; refine zB ?_; refine blk_put (cs := #[.int .i64 0, .int .i64 0, .string (⟨#[]⟩ : ByteArray)]) ?_ 0 _ rfl; refine zB ?_; exact BK146.out) hb); have n2_ := Aside0.mk (below_step (by repeat first | with_reducible exact HB.out | apply zS | refine below_set ?_ GE141.out | refine below_set ?_ GE146.out | exact HB.out) hb); clear BK141; clear BK146; clear HB; have BK141 := n0_; have BK146 := n1_; have HB := n2_; clear n0_ n1_ n2_; (try clear hb); (try clear hb2); (try clear hk); (try clear hi)) | ((with_reducible refine gate_dst (N := 9) rfl ?_); refine box_event ?hg (N := 9) ?hd (cs := #[.int .i64 0, .int .i64 0, .string (⟨#[]⟩ : ByteArray)]) (t := 23) ?hr ?_; (case hd => rfl); (case hg => rfl); (case hr => first | (go_simp; done) | (go_simp; rfl)); intro gb151 hg w32 hbox hb; have n0_ := Aside0.mk (blk_below (g := gb141) (o := .cells #[.int .i64 x142000_1, .int .i64 x142001_1, .string x142002_1] 23 (0, 0)) (zB BK141.out) hb); have n1_ := Aside0.mk (blk_below (g := gb146) (o := .cells #[.int .i64 ((rd_T23 l0 x13_1).f0), .int .i64 ((rd_T23 l0 x13_1).f1), .string ((rd_T23 l0 x13_1).f2)] 23 (0, 0)) (zB BK146.out) hb); have n2_ := Aside0.mk (below_step (by repeat first | with_reducible exact HB.out | apply zS | refine below_set ?_ GE141.out | refine below_set ?_ GE146.out | exact HB.out) hb); have n3_ := Aside0.mk (hbox); have n4_ := Aside0.mk ((by rw [hg]; exact (below_size (by repeat first | with_reducible exact HB.out | apply zS | refine below_set ?_ GE141.out | refine below_set ?_ GE146.out | exact HB.out)) : w.heap.size ≤ gb151)); have n5_ := n4_; have n6_ := Aside0.mk ((by rw [hg]; exact Nat.ne_of_lt (blk_lt (g := gb141) (o := .cells #[.int .i64 x142000_1, .int .i64 x142001_1, .string x142002_1] 23 (0, 0)) (zB BK141.out)) : gb141 ≠ gb151)); have n7_ := Aside0.mk ((by rw [hg]; exact Nat.ne_of_gt (blk_lt (g := gb141) (o := .cells #[.int .i64 x142000_1, .int .i64 x142001_1, .string x142002_1] 23 (0, 0)) (zB BK141.out)) : gb151 ≠ gb141)); have n8_ := Aside0.mk ((by rw [hg]; exact Nat.ne_of_lt (blk_lt (g := gb146) (o := .cells #[.int .i64 ((rd_T23 l0 x13_1).f0), .int .i64 ((rd_T23 l0 x13_1).f1), .string ((rd_T23 l0 x13_1).f2)] 23 (0, 0)) (zB BK146.out)) : gb146 ≠ gb151)); have n9_ := Aside0.mk ((by rw [hg]; exact Nat.ne_of_gt (blk_lt (g := gb146) (o := .cells #[.int .i64 ((rd_T23 l0 x13_1).f0), .int .i64 ((rd_T23 l0 x13_1).f1), .string ((rd_T23 l0 x13_1).f2)] 23 (0, 0)) (zB BK146.out)) : gb151 ≠ gb146)); clear BK141; clear BK146; clear HB; have BK141 := n0_; have BK146 := n1_; have HB := n2_; have BK151 := n3_; have GW151 := n4_; have GE151 := n5_; have NB141_151 := n6_; have NB151_141 := n7_; have NB146_151 := n8_; have NB151_146 := n9_; clear n0_ n1_ n2_ n3_ n4_ n5_ n6_ n7_ n8_ n9_; clear hb hbox hg; have hnb33 := NB151_141.out; have hnc33 := NB141_151.out; have hnb34 := NB151_146.out; have hnc34 := NB146_151.out; obtain ⟨hcz35_0, hcz35_1, hcz35_2, hfz35_0, hfz35_1, hfz35_2⟩ := zC3 BK151.out))
                  go_roundg k1
                  case measure => have := HK1.out; omega
                  case rel => exact ⟨(true), (wrap64 (x13_1 + 1)), (x142000_1), (x142001_1), (x142002_1), (by first | rfl | (simp; done) | (simp [*]; done)), (by first | rfl | (simp; done) | (simp [*]; done)), H', ⟨by have := HK1.out; omega⟩, ⟨by refine zB (blk_far ?_ NB141_151.out _); refine zB ?_; refine blk_far ?_ NB141_151.out _; refine zB (blk_far ?_ NB141_151.out _); refine zB ?_; exact BK141.out⟩, ⟨by repeat first | with_reducible exact HB.out | apply zS | refine below_set ?_ GE141.out | refine below_set ?_ GE146.out | refine below_set ?_ GE151.out | exact HB.out⟩⟩
                · replace c27 := Bool.eq_false_iff.mpr c27
                  subst c27
                  have H1 : (fold_flags.l0 k1 false t147 l0 (l0.length : Int) (wrap64 (x13_1 + 1))) = some (r1, r2, r3) := by rw [if_neg (show ¬ (false = true) by decide)] at H; exact H
                  clear H
                  have H := H1
                  clear H1
                  have H' := Aside0.mk H
                  clear H
                  have p145 : 0 ≤ (x13_1 : Int) := of_decide_eq_true (by first | (with_reducible assumption) | assumption)
                  have q145 : x13_1 < (l0.length : Int) := of_decide_eq_true (by first | (with_reducible assumption) | assumption)
                  obtain ⟨ad145, e145, hx145_0, hx145_1, hx145_2⟩ := at_T23 HR0.out x13_1 p145 q145
                  cases e145
                  replace hx145_0 := (HB.out.cell (World.block_lt_of_cell? w _ hx145_0)).trans hx145_0
                  replace hx145_1 := (HB.out.cell (World.block_lt_of_cell? w _ hx145_1)).trans hx145_1
                  replace hx145_2 := (HB.out.cell (World.block_lt_of_cell? w _ hx145_2)).trans hx145_2
                  replace p145 := eq_true p145
                  replace q145 := eq_true q145
                  go_wp2_with (first | ((with_reducible refine gate_dst (N := 7) rfl ?_); refine box_event ?hg (N := 7) ?hd (cs := #[.int .i64 0, .int .i64 0, .string (⟨#[]⟩ : ByteArray)]) (t := 23) ?hr ?_; (case hd => rfl); (case hg => rfl); (case hr => first | (go_simp; done) | (go_simp; rfl)); intro gb146 hg w36 hbox hb; have n0_ := Aside0.mk (blk_below (g := gb141) (o := .cells #[.int .i64 x142000_1, .int .i64 x142001_1, .string x142002_1] 23 (0, 0)) (zB BK141.out) hb); have n1_ := Aside0.mk (below_step (by repeat first | with_reducible exact HB.out | apply zS | refine below_set ?_ GE141.out | exact HB.out) hb); have n2_ := Aside0.mk (hbox); have n3_ := Aside0.mk ((by rw [hg]; exact (below_size (by repeat first | with_reducible exact HB.out | apply zS | refine below_set ?_ GE141.out | exact HB.out)) : w.heap.size ≤ gb146)); have n4_ := n3_; have n5_ := Aside0.mk ((by rw [hg]; exact Nat.ne_of_lt (blk_lt (g := gb141) (o := .cells #[.int .i64 x142000_1, .int .i64 x142001_1, .string x142002_1] 23 (0, 0)) (zB BK141.out)) : gb141 ≠ gb146)); have n6_ := Aside0.mk ((by rw [hg]; exact Nat.ne_of_gt (blk_lt (g := gb141) (o := .cells #[.int .i64 x142000_1, .int .i64 x142001_1, .string x142002_1] 23 (0, 0)) (zB BK141.out)) : gb146 ≠ gb141)); clear BK141; clear HB; have BK141 := n0_; have HB := n1_; have BK146 := n2_; have GW146 := n3_; have GE146 := n4_; have NB141_146 := n5_; have NB146_141 := n6_; clear n0_ n1_ n2_ n3_ n4_ n5_ n6_; clear hb hbox hg; have hnb37 := NB146_141.out; have hnc37 := NB141_146.out; obtain ⟨hcz38_0, hcz38_1, hcz38_2, hfz38_0, hfz38_1, hfz38_2⟩ := zC3 BK146.out) | ((with_reducible refine gate_callee (f := 61) rfl ?_); refine goesL_ (some 19) rfl rfl Tryd.func61 (by kernel_rfl) rfl #[.agg #[.int .i64 ((rd_T23 l0 x13_1).f0), .int .i64 ((rd_T23 l0 x13_1).f1), .string ((rd_T23 l0 x13_1).f2)]] rfl (by (try simp only [List.map_toArray, List.map_cons, List.map_nil]); first | done | rfl | (simp only [List.length_drop, List.length_take]; rfl)) ?_; (with_reducible refine (value_Flag.calls k1 ((rd_T23 l0 x13_1).f0) ((rd_T23 l0 x13_1).f1) ((rd_T23 l0 x13_1).f2) t147 t148 t149 t150 _ A7.out).mono ?_); rintro e w39 ⟨rfl, hb⟩; refine ⟨_, rfl, ?_⟩; have n0_ := Aside0.mk (blk_below (g := gb141) (o := .cells #[.int .i64 x142000_1, .int .i64 x142001_1, .string x142002_1] 23 (0, 0)) (by refine zB (blk_far ?_ NB141_146.out _); refine zB ?_; refine blk_far ?_ NB141_146.out _; refine zB (blk_far ?_ NB141_146.out _); refine zB ?_; exact BK141.out) hb); have n1_ := Aside0.mk (blk_below (g := gb146) (o := .cells #[.int .i64 ((rd_T23 l0 x13_1).f0), .int .i64 ((rd_T23 l0 x13_1).f1), .string ((rd_T23 l0 x13_1).f2)] 23 (0, 0)) (by refine zB ?_; refine blk_put (cs := #[.int .i64 ((rd_T23 l0 x13_1).f0), .int .i64 ((rd_T23 l0 x13_1).f1), .string (⟨#[]⟩ : ByteArray)]) ?_ 2 _ rfl; refine zB ?_; refine blk_put (cs := #[.int .i64 ((rd_T23 l0 x13_1).f0), .int .i64 0, .string (⟨#[]⟩ : ByteArray)]) ?_ 1 _ rfl; refine zB ?_; refine blk_put (cs := #[.int .i64 0, .int .i64 0, .string (⟨#[]⟩ : ByteArray)]) ?_ 0 _ rfl; refine zB ?_; exact BK146.out) hb); have n2_ := Aside0.mk (below_step (by repeat first | with_reducible exact HB.out | apply zS | refine below_set ?_ GE141.out | refine below_set ?_ GE146.out | exact HB.out) hb); clear BK141; clear BK146; clear HB; have BK141 := n0_; have BK146 := n1_; have HB := n2_; clear n0_ n1_ n2_; (try clear hb); (try clear hb2); (try clear hk); (try clear hi)) | ((with_reducible refine gate_dst (N := 9) rfl ?_); refine box_event ?hg (N := 9) ?hd (cs := #[.int .i64 0, .int .i64 0, .string (⟨#[]⟩ : ByteArray)]) (t := 23) ?hr ?_; (case hd => rfl); (case hg => rfl); (case hr => first | (go_simp; done) | (go_simp; rfl)); intro gb151 hg w40 hbox hb; have n0_ := Aside0.mk (blk_below (g := gb141) (o := .cells #[.int .i64 x142000_1, .int .i64 x142001_1, .string x142002_1] 23 (0, 0)) (zB BK141.out) hb); have n1_ := Aside0.mk (blk_below (g := gb146) (o := .cells #[.int .i64 ((rd_T23 l0 x13_1).f0), .int .i64 ((rd_T23 l0 x13_1).f1), .string ((rd_T23 l0 x13_1).f2)] 23 (0, 0)) (zB BK146.out) hb); have n2_ := Aside0.mk (below_step (by repeat first | with_reducible exact HB.out | apply zS | refine below_set ?_ GE141.out | refine below_set ?_ GE146.out | exact HB.out) hb); have n3_ := Aside0.mk (hbox); have n4_ := Aside0.mk ((by rw [hg]; exact (below_size (by repeat first | with_reducible exact HB.out | apply zS | refine below_set ?_ GE141.out | refine below_set ?_ GE146.out | exact HB.out)) : w.heap.size ≤ gb151)); have n5_ := n4_; have n6_ := Aside0.mk ((by rw [hg]; exact Nat.ne_of_lt (blk_lt (g := gb141) (o := .cells #[.int .i64 x142000_1, .int .i64 x142001_1, .string x142002_1] 23 (0, 0)) (zB BK141.out)) : gb141 ≠ gb151)); have n7_ := Aside0.mk ((by rw [hg]; exact Nat.ne_of_gt (blk_lt (g := gb141) (o := .cells #[.int .i64 x142000_1, .int .i64 x142001_1, .string x142002_1] 23 (0, 0)) (zB BK141.out)) : gb151 ≠ gb141)); have n8_ := Aside0.mk ((by rw [hg]; exact Nat.ne_of_lt (blk_lt (g := gb146) (o := .cells #[.int .i64 ((rd_T23 l0 x13_1).f0), .int .i64 ((rd_T23 l0 x13_1).f1), .string ((rd_T23 l0 x13_1).f2)] 23 (0, 0)) (zB BK146.out)) : gb146 ≠ gb151)); have n9_ := Aside0.mk ((by rw [hg]; exact Nat.ne_of_gt (blk_lt (g := gb146) (o := .cells #[.int .i64 ((rd_T23 l0 x13_1).f0), .int .i64 ((rd_T23 l0 x13_1).f1), .string ((rd_T23 l0 x13_1).f2)] 23 (0, 0)) (zB BK146.out)) : gb151 ≠ gb146)); clear BK141; clear BK146; clear HB; have BK141 := n0_; have BK146 := n1_; have HB := n2_; have BK151 := n3_; have GW151 := n4_; have GE151 := n5_; have NB141_151 := n6_; have NB151_141 := n7_; have NB146_151 := n8_; have NB151_146 := n9_; clear n0_ n1_ n2_ n3_ n4_ n5_ n6_ n7_ n8_ n9_; clear hb hbox hg; have hnb41 := NB151_141.out; have hnc41 := NB141_151.out; have hnb42 := NB151_146.out; have hnc42 := NB146_151.out; obtain ⟨hcz43_0, hcz43_1, hcz43_2, hfz43_0, hfz43_1, hfz43_2⟩ := zC3 BK151.out))
                  go_roundg k1
                  case measure => have := HK1.out; omega
                  case rel => exact ⟨(t147), (wrap64 (x13_1 + 1)), (x142000_1), (x142001_1), (x142002_1), (by first | rfl | (simp; done) | (simp [*]; done)), (by first | rfl | (simp; done) | (simp [*]; done)), H', ⟨by have := HK1.out; omega⟩, ⟨by refine zB (blk_far ?_ NB141_151.out _); refine zB ?_; refine blk_far ?_ NB141_151.out _; refine zB (blk_far ?_ NB141_151.out _); refine zB ?_; exact BK141.out⟩, ⟨by repeat first | with_reducible exact HB.out | apply zS | refine below_set ?_ GE141.out | refine below_set ?_ GE146.out | refine below_set ?_ GE151.out | exact HB.out⟩⟩
            · rw [if_neg c8] at H
              have c8b0 : (t148 == 0) = false := beq_eq_false_iff_ne.mpr c8
              have c8b1 : (t148 != 0) = true := bne_iff_ne.mpr c8
              simp only [Option.some.injEq, Prod.mk.injEq] at H
              obtain ⟨rfl, rfl, rfl⟩ := H
              have p145 : 0 ≤ (x13_1 : Int) := of_decide_eq_true (by first | (with_reducible assumption) | assumption)
              have q145 : x13_1 < (l0.length : Int) := of_decide_eq_true (by first | (with_reducible assumption) | assumption)
              obtain ⟨ad145, e145, hx145_0, hx145_1, hx145_2⟩ := at_T23 HR0.out x13_1 p145 q145
              cases e145
              replace hx145_0 := (HB.out.cell (World.block_lt_of_cell? w _ hx145_0)).trans hx145_0
              replace hx145_1 := (HB.out.cell (World.block_lt_of_cell? w _ hx145_1)).trans hx145_1
              replace hx145_2 := (HB.out.cell (World.block_lt_of_cell? w _ hx145_2)).trans hx145_2
              replace p145 := eq_true p145
              replace q145 := eq_true q145
              go_wp2_with (first | ((with_reducible refine gate_dst (N := 7) rfl ?_); refine box_event ?hg (N := 7) ?hd (cs := #[.int .i64 0, .int .i64 0, .string (⟨#[]⟩ : ByteArray)]) (t := 23) ?hr ?_; (case hd => rfl); (case hg => rfl); (case hr => first | (go_simp; done) | (go_simp; rfl)); intro gb146 hg w44 hbox hb; have n0_ := Aside0.mk (blk_below (g := gb141) (o := .cells #[.int .i64 x142000_1, .int .i64 x142001_1, .string x142002_1] 23 (0, 0)) (zB BK141.out) hb); have n1_ := Aside0.mk (below_step (by repeat first | with_reducible exact HB.out | apply zS | refine below_set ?_ GE141.out | exact HB.out) hb); have n2_ := Aside0.mk (hbox); have n3_ := Aside0.mk ((by rw [hg]; exact (below_size (by repeat first | with_reducible exact HB.out | apply zS | refine below_set ?_ GE141.out | exact HB.out)) : w.heap.size ≤ gb146)); have n4_ := n3_; have n5_ := Aside0.mk ((by rw [hg]; exact Nat.ne_of_lt (blk_lt (g := gb141) (o := .cells #[.int .i64 x142000_1, .int .i64 x142001_1, .string x142002_1] 23 (0, 0)) (zB BK141.out)) : gb141 ≠ gb146)); have n6_ := Aside0.mk ((by rw [hg]; exact Nat.ne_of_gt (blk_lt (g := gb141) (o := .cells #[.int .i64 x142000_1, .int .i64 x142001_1, .string x142002_1] 23 (0, 0)) (zB BK141.out)) : gb146 ≠ gb141)); clear BK141; clear HB; have BK141 := n0_; have HB := n1_; have BK146 := n2_; have GW146 := n3_; have GE146 := n4_; have NB141_146 := n5_; have NB146_141 := n6_; clear n0_ n1_ n2_ n3_ n4_ n5_ n6_; clear hb hbox hg; have hnb45 := NB146_141.out; have hnc45 := NB141_146.out; obtain ⟨hcz46_0, hcz46_1, hcz46_2, hfz46_0, hfz46_1, hfz46_2⟩ := zC3 BK146.out) | ((with_reducible refine gate_callee (f := 61) rfl ?_); refine goesL_ (some 19) rfl rfl Tryd.func61 (by kernel_rfl) rfl #[.agg #[.int .i64 ((rd_T23 l0 x13_1).f0), .int .i64 ((rd_T23 l0 x13_1).f1), .string ((rd_T23 l0 x13_1).f2)]] rfl (by (try simp only [List.map_toArray, List.map_cons, List.map_nil]); first | done | rfl | (simp only [List.length_drop, List.length_take]; rfl)) ?_; (with_reducible refine (value_Flag.calls k1 ((rd_T23 l0 x13_1).f0) ((rd_T23 l0 x13_1).f1) ((rd_T23 l0 x13_1).f2) t147 t148 t149 t150 _ A7.out).mono ?_); rintro e w47 ⟨rfl, hb⟩; refine ⟨_, rfl, ?_⟩; have n0_ := Aside0.mk (blk_below (g := gb141) (o := .cells #[.int .i64 x142000_1, .int .i64 x142001_1, .string x142002_1] 23 (0, 0)) (by refine zB (blk_far ?_ NB141_146.out _); refine zB ?_; refine blk_far ?_ NB141_146.out _; refine zB (blk_far ?_ NB141_146.out _); refine zB ?_; exact BK141.out) hb); have n1_ := Aside0.mk (blk_below (g := gb146) (o := .cells #[.int .i64 ((rd_T23 l0 x13_1).f0), .int .i64 ((rd_T23 l0 x13_1).f1), .string ((rd_T23 l0 x13_1).f2)] 23 (0, 0)) (by refine zB ?_; refine blk_put (cs := #[.int .i64 ((rd_T23 l0 x13_1).f0), .int .i64 ((rd_T23 l0 x13_1).f1), .string (⟨#[]⟩ : ByteArray)]) ?_ 2 _ rfl; refine zB ?_; refine blk_put (cs := #[.int .i64 ((rd_T23 l0 x13_1).f0), .int .i64 0, .string (⟨#[]⟩ : ByteArray)]) ?_ 1 _ rfl; refine zB ?_; refine blk_put (cs := #[.int .i64 0, .int .i64 0, .string (⟨#[]⟩ : ByteArray)]) ?_ 0 _ rfl; refine zB ?_; exact BK146.out) hb); have n2_ := Aside0.mk (below_step (by repeat first | with_reducible exact HB.out | apply zS | refine below_set ?_ GE141.out | refine below_set ?_ GE146.out | exact HB.out) hb); clear BK141; clear BK146; clear HB; have BK141 := n0_; have BK146 := n1_; have HB := n2_; clear n0_ n1_ n2_; (try clear hb); (try clear hb2); (try clear hk); (try clear hi)) | ((with_reducible refine gate_dst (N := 9) rfl ?_); refine box_event ?hg (N := 9) ?hd (cs := #[.int .i64 0, .int .i64 0, .string (⟨#[]⟩ : ByteArray)]) (t := 23) ?hr ?_; (case hd => rfl); (case hg => rfl); (case hr => first | (go_simp; done) | (go_simp; rfl)); intro gb151 hg w48 hbox hb; have n0_ := Aside0.mk (blk_below (g := gb141) (o := .cells #[.int .i64 x142000_1, .int .i64 x142001_1, .string x142002_1] 23 (0, 0)) (zB BK141.out) hb); have n1_ := Aside0.mk (blk_below (g := gb146) (o := .cells #[.int .i64 ((rd_T23 l0 x13_1).f0), .int .i64 ((rd_T23 l0 x13_1).f1), .string ((rd_T23 l0 x13_1).f2)] 23 (0, 0)) (zB BK146.out) hb); have n2_ := Aside0.mk (below_step (by repeat first | with_reducible exact HB.out | apply zS | refine below_set ?_ GE141.out | refine below_set ?_ GE146.out | exact HB.out) hb); have n3_ := Aside0.mk (hbox); have n4_ := Aside0.mk ((by rw [hg]; exact (below_size (by repeat first | with_reducible exact HB.out | apply zS | refine below_set ?_ GE141.out | refine below_set ?_ GE146.out | exact HB.out)) : w.heap.size ≤ gb151)); have n5_ := n4_; have n6_ := Aside0.mk ((by rw [hg]; exact Nat.ne_of_lt (blk_lt (g := gb141) (o := .cells #[.int .i64 x142000_1, .int .i64 x142001_1, .string x142002_1] 23 (0, 0)) (zB BK141.out)) : gb141 ≠ gb151)); have n7_ := Aside0.mk ((by rw [hg]; exact Nat.ne_of_gt (blk_lt (g := gb141) (o := .cells #[.int .i64 x142000_1, .int .i64 x142001_1, .string x142002_1] 23 (0, 0)) (zB BK141.out)) : gb151 ≠ gb141)); have n8_ := Aside0.mk ((by rw [hg]; exact Nat.ne_of_lt (blk_lt (g := gb146) (o := .cells #[.int .i64 ((rd_T23 l0 x13_1).f0), .int .i64 ((rd_T23 l0 x13_1).f1), .string ((rd_T23 l0 x13_1).f2)] 23 (0, 0)) (zB BK146.out)) : gb146 ≠ gb151)); have n9_ := Aside0.mk ((by rw [hg]; exact Nat.ne_of_gt (blk_lt (g := gb146) (o := .cells #[.int .i64 ((rd_T23 l0 x13_1).f0), .int .i64 ((rd_T23 l0 x13_1).f1), .string ((rd_T23 l0 x13_1).f2)] 23 (0, 0)) (zB BK146.out)) : gb151 ≠ gb146)); clear BK141; clear BK146; clear HB; have BK141 := n0_; have BK146 := n1_; have HB := n2_; have BK151 := n3_; have GW151 := n4_; have GE151 := n5_; have NB141_151 := n6_; have NB151_141 := n7_; have NB146_151 := n8_; have NB151_146 := n9_; clear n0_ n1_ n2_ n3_ n4_ n5_ n6_ n7_ n8_ n9_; clear hb hbox hg; have hnb49 := NB151_141.out; have hnc49 := NB141_151.out; have hnb50 := NB151_146.out; have hnc50 := NB146_151.out; obtain ⟨hcz51_0, hcz51_1, hcz51_2, hfz51_0, hfz51_1, hfz51_2⟩ := zC3 BK151.out; obtain ⟨hcz52_0, hcz52_1, hcz52_2, hfz52_0, hfz52_1, hfz52_2⟩ := zC3 BK141.out))
              refine bodyPost_ret (results_cell_row rfl _ _ gb141 23 #[.int .i64 t148, .int .i64 t149, .string t150] (0, 0) _ rfl (by refine zB ?_; refine blk_put (cs := #[.int .i64 t148, .int .i64 t149, .string x142002_1]) ?_ 2 _ rfl; refine zB ?_; refine blk_put (cs := #[.int .i64 t148, .int .i64 x142001_1, .string x142002_1]) ?_ 1 _ rfl; refine zB ?_; refine blk_put (cs := #[.int .i64 x142000_1, .int .i64 x142001_1, .string x142002_1]) ?_ 0 _ rfl; refine zB (blk_far ?_ NB141_151.out _); refine zB ?_; refine blk_far ?_ NB141_151.out _; refine zB (blk_far ?_ NB141_151.out _); refine zB ?_; exact BK141.out) Tryd.underlying23 rfl (by kernel_rfl)) rfl ?_
              exact ⟨by first | rfl | (simp [errW_none, errW_some] <;> rfl) | (simp [*, errW_none, errW_some] <;> rfl), by repeat first | with_reducible exact HB.out | apply zS | refine below_set ?_ GE141.out | refine below_set ?_ GE146.out | refine below_set ?_ GE151.out | exact HB.out⟩
          · rw [if_neg c6] at H
            exact absurd H (by simp)
        · rw [if_neg c5] at H
          exact absurd H (by simp)
      · rw [if_neg c4] at H
        have c4b0 : decide (x13_1 < (l0.length : Int)) = false := decide_eq_false c4
        clear c4
        replace H := Option.bind_eq_some_iff.mp H
        obtain ⟨⟨t142, t143, t144⟩, A530, H⟩ := H
        replace H : (some (t142, t143, t144)) = some (r1, r2, r3) := H
        have A53 := Aside0.mk A530
        clear A530
        simp only [Option.some.injEq, Prod.mk.injEq] at H
        obtain ⟨rfl, rfl, rfl⟩ := H
        go_wp2_with (first | ((with_reducible refine gate_callee (f := 62) rfl ?_); refine goesL_ (some 37) rfl rfl Tryd.func62 (by kernel_rfl) rfl #[.bool x5_1] rfl (by (try simp only [List.map_toArray, List.map_cons, List.map_nil]); first | done | rfl | (simp only [List.length_drop, List.length_take]; rfl)) ?_; (with_reducible refine (fold_truth.calls x5_1 t142 t143 t144 _ A53.out).mono ?_); rintro e w54 ⟨rfl, hb⟩; refine ⟨_, rfl, ?_⟩; have n0_ := Aside0.mk (blk_below (g := gb141) (o := .cells #[.int .i64 x142000_1, .int .i64 x142001_1, .string x142002_1] 23 (0, 0)) (zB BK141.out) hb); have n1_ := Aside0.mk (below_step (by repeat first | with_reducible exact HB.out | apply zS | refine below_set ?_ GE141.out | exact HB.out) hb); clear BK141; clear HB; have BK141 := n0_; have HB := n1_; clear n0_ n1_; (try clear hb); (try clear hb2); (try clear hk); (try clear hi); obtain ⟨hcz55_0, hcz55_1, hcz55_2, hfz55_0, hfz55_1, hfz55_2⟩ := zC3 BK141.out))
        refine bodyPost_ret (results_cell_row rfl _ _ gb141 23 #[.int .i64 t142, .int .i64 t143, .string t144] (0, 0) _ rfl (by refine zB ?_; refine blk_put (cs := #[.int .i64 t142, .int .i64 t143, .string x142002_1]) ?_ 2 _ rfl; refine zB ?_; refine blk_put (cs := #[.int .i64 t142, .int .i64 x142001_1, .string x142002_1]) ?_ 1 _ rfl; refine zB ?_; refine blk_put (cs := #[.int .i64 x142000_1, .int .i64 x142001_1, .string x142002_1]) ?_ 0 _ rfl; refine zB ?_; exact BK141.out) Tryd.underlying23 rfl (by kernel_rfl)) rfl ?_
        exact ⟨by first | rfl | (simp [errW_none, errW_some] <;> rfl) | (simp [*, errW_none, errW_some] <;> rfl), by repeat first | with_reducible exact HB.out | apply zS | refine below_set ?_ GE141.out | exact HB.out⟩
end Go.Proofs.YtmdmpafdpgdpoaaDoor.P

namespace Go.Proofs.YtmdmpafdpgdpoaaDoor.P
open Go.RowKit Go.Proofs.YtmdmpafdpgdpoaaDoorW.PrintWords Go.Proofs.YtmdmpafdpgdpoaaDoorW.PrintLast Go.Proofs.YtmdmpafdpgdpoaaDoorW.PrintMore
attribute [local go_sem] max2_int min2_int max_two min_two max_three min_three max_four min_four   -- for this text's walks alone
set_option linter.unusedVariables false
set_option linter.unusedSimpArgs false
def value_Of.f (a0 : ByteArray) : Option (Int × Int × ByteArray) := if (a0.size : Int) > 200 then ((value_Fail.f 7).bind fun bt153 => (some (bt153.1, bt153.2.1, bt153.2.2))) else (some (3, 0, a0))
set_option maxHeartbeats 8000000 in
set_option maxRecDepth 100000 in
theorem value_Of.calls (a0 : ByteArray) (r1 : Int) (r2 : Int) (r3 : ByteArray) (w : World) (h : value_Of.f a0 = some (r1, r2, r3)) :
    Calls Tryd.prog 63 #[.string a0] w fun e w' => e = .returned (.agg #[.int .i64 r1, .int .i64 r2, .string r3]) ∧ Below w.heap.size w w' := by
  have hu23 := Tryd.underlying23
  have HB := Aside0.mk (Below.refl w.heap.size w)
  have H : (if (a0.size : Int) > 200 then ((value_Fail.f 7).bind fun bt153 => (some (bt153.1, bt153.2.1, bt153.2.2))) else (some (3, 0, a0))) = some (r1, r2, r3) := h
  clear h
  by_cases c2 : (a0.size : Int) > 200
  · rw [if_pos c2] at H
    have c2b0 : decide (200 < (a0.size : Int)) = true := decide_eq_true c2
    have c2b1 : decide (200 < a0.size) = true := decide_eq_true (by omega)
    clear c2
    replace H := Option.bind_eq_some_iff.mp H
    obtain ⟨⟨t153, t154, t155⟩, A30, H⟩ := H
    replace H : (some (t153, t154, t155)) = some (r1, r2, r3) := H
    have A3 := Aside0.mk A30
    clear A30
    simp only [Option.some.injEq, Prod.mk.injEq] at H
    obtain ⟨rfl, rfl, rfl⟩ := H
    go_enter Tryd.func63, Tryd.ntmps63
    go_wp2_with (first | ((with_reducible refine gate_dst (N := 2) rfl ?_); refine box_event ?hg (N := 2) ?hd (cs := #[.int .i64 0, .int .i64 0, .string (⟨#[]⟩ : ByteArray)]) (t := 23) ?hr ?_; (case hd => rfl); (case hg => rfl); (case hr => first | (go_simp; done) | (go_simp; rfl)); intro gb152 hg w4 hbox hb; have n0_ := Aside0.mk (below_step (by repeat first | with_reducible exact HB.out | apply zS | exact HB.out) hb); have n1_ := Aside0.mk (hbox); have n2_ := Aside0.mk ((by rw [hg]; exact (below_size (by repeat first | with_reducible exact HB.out | apply zS | exact HB.out)) : w.heap.size ≤ gb152)); have n3_ := n2_; clear HB; have HB := n0_; have BK152 := n1_; have GW152 := n2_; have GE152 := n3_; clear n0_ n1_ n2_ n3_; clear hb hbox hg) | ((with_reducible refine gate_callee (f := 30) rfl ?_); refine goesL_ (some 6) rfl rfl Tryd.func30 (by kernel_rfl) rfl #[.int .i64 7] rfl (by (try simp only [List.map_toArray, List.map_cons, List.map_nil]); first | done | rfl | (simp only [List.length_drop, List.length_take]; rfl)) ?_; (with_reducible refine (value_Fail.calls 7 t153 t154 t155 _ A3.out).mono ?_); rintro e w5 ⟨rfl, hb⟩; refine ⟨_, rfl, ?_⟩; have n0_ := Aside0.mk (blk_below (g := gb152) (o := .cells #[.int .i64 0, .int .i64 0, .string (⟨#[]⟩ : ByteArray)] 23 (0, 0)) (zB BK152.out) hb); have n1_ := Aside0.mk (below_step (by repeat first | with_reducible exact HB.out | apply zS | refine below_set ?_ GE152.out | exact HB.out) hb); clear BK152; clear HB; have BK152 := n0_; have HB := n1_; clear n0_ n1_; (try clear hb); (try clear hb2); (try clear hk); (try clear hi); obtain ⟨hcz6_0, hcz6_1, hcz6_2, hfz6_0, hfz6_1, hfz6_2⟩ := zC3 BK152.out))
    refine bodyPost_ret (results_cell_row rfl _ _ gb152 23 #[.int .i64 t153, .int .i64 t154, .string t155] (0, 0) _ rfl (by refine zB ?_; refine blk_put (cs := #[.int .i64 t153, .int .i64 t154, .string (⟨#[]⟩ : ByteArray)]) ?_ 2 _ rfl; refine zB ?_; refine blk_put (cs := #[.int .i64 t153, .int .i64 0, .string (⟨#[]⟩ : ByteArray)]) ?_ 1 _ rfl; refine zB ?_; refine blk_put (cs := #[.int .i64 0, .int .i64 0, .string (⟨#[]⟩ : ByteArray)]) ?_ 0 _ rfl; refine zB ?_; exact BK152.out) Tryd.underlying23 rfl (by kernel_rfl)) rfl ?_
    exact ⟨by first | rfl | (simp [errW_none, errW_some] <;> rfl) | (simp [*, errW_none, errW_some] <;> rfl), by repeat first | with_reducible exact HB.out | apply zS | refine below_set ?_ GE152.out | exact HB.out⟩
  · rw [if_neg c2] at H
    have c2b0 : decide (200 < (a0.size : Int)) = false := decide_eq_false c2
    have c2b1 : decide (200 < a0.size) = false := decide_eq_false (by omega)
    clear c2
    simp only [Option.some.injEq, Prod.mk.injEq] at H
    obtain ⟨rfl, rfl, rfl⟩ := H
    go_enter Tryd.func63, Tryd.ntmps63
    go_wp2_with (first | ((with_reducible refine gate_dst (N := 2) rfl ?_); refine box_event ?hg (N := 2) ?hd (cs := #[.int .i64 0, .int .i64 0, .string (⟨#[]⟩ : ByteArray)]) (t := 23) ?hr ?_; (case hd => rfl); (case hg => rfl); (case hr => first | (go_simp; done) | (go_simp; rfl)); intro gb152 hg w7 hbox hb; have n0_ := Aside0.mk (below_step (by repeat first | with_reducible exact HB.out | apply zS | exact HB.out) hb); have n1_ := Aside0.mk (hbox); have n2_ := Aside0.mk ((by rw [hg]; exact (below_size (by repeat first | with_reducible exact HB.out | apply zS | exact HB.out)) : w.heap.size ≤ gb152)); have n3_ := n2_; clear HB; have HB := n0_; have BK152 := n1_; have GW152 := n2_; have GE152 := n3_; clear n0_ n1_ n2_ n3_; clear hb hbox hg; obtain ⟨hcz8_0, hcz8_1, hcz8_2, hfz8_0, hfz8_1, hfz8_2⟩ := zC3 BK152.out))
    refine bodyPost_ret (results_cell_row rfl _ _ gb152 23 #[.int .i64 3, .int .i64 0, .string a0] (0, 0) _ rfl (by refine zB ?_; refine blk_put (cs := #[.int .i64 3, .int .i64 0, .string (⟨#[]⟩ : ByteArray)]) ?_ 2 _ rfl; refine zB ?_; refine blk_put (cs := #[.int .i64 3, .int .i64 0, .string (⟨#[]⟩ : ByteArray)]) ?_ 1 _ rfl; refine zB ?_; refine blk_put (cs := #[.int .i64 0, .int .i64 0, .string (⟨#[]⟩ : ByteArray)]) ?_ 0 _ rfl; refine zB ?_; exact BK152.out) Tryd.underlying23 rfl (by kernel_rfl)) rfl ?_
    exact ⟨by first | rfl | (simp [errW_none, errW_some] <;> rfl) | (simp [*, errW_none, errW_some] <;> rfl), by repeat first | with_reducible exact HB.out | apply zS | refine below_set ?_ GE152.out | exact HB.out⟩
end Go.Proofs.YtmdmpafdpgdpoaaDoor.P

namespace Go.Proofs.YtmdmpafdpgdpoaaDoor.P
open Go.RowKit Go.Proofs.YtmdmpafdpgdpoaaDoorW.PrintWords Go.Proofs.YtmdmpafdpgdpoaaDoorW.PrintLast Go.Proofs.YtmdmpafdpgdpoaaDoorW.PrintMore
open M (fit I64 u64w dig itoaF)
set_option linter.unusedVariables false
set_option linter.unusedSimpArgs false
def nm : Nat → ByteArray
  | 1 => ⟨#[35, 68, 73, 86]⟩ | 2 => ⟨#[35, 79, 86, 69, 82]⟩ | 3 => ⟨#[35, 84, 89, 80, 69]⟩ | 4 => ⟨#[35, 82, 69, 70]⟩
  | 5 => ⟨#[35, 65, 82, 71]⟩ | 6 => ⟨#[35, 76, 79, 79, 80]⟩ | 7 => ⟨#[35, 76, 79, 78, 71]⟩ | 8 => ⟨#[35, 78, 79, 78, 69]⟩
  | _ => ⟨#[]⟩
def nmRow : Array Value := #[.string (nm 0), .string (nm 1), .string (nm 2), .string (nm 3), .string (nm 4), .string (nm 5), .string (nm 6), .string (nm 7), .string (nm 8)]
set_option maxRecDepth 100000 in
theorem value_names.calls (w : World) : Calls Tryd.prog 95 #[] w fun e w' => e = .returned (.agg nmRow) ∧ Below w.heap.size w w' := by
  have hu := Tryd.underlying119
  go_enter Tryd.func95, Tryd.ntmps95
  go_wp2_with fail
  refine bodyPost_ret (v := .agg nmRow) (by simp [results, Tryd.results95, go_sem, hu]; rfl) rfl ⟨rfl, ?_⟩
  exact (Below.refl _ _).alloc (Nat.le_refl _) _
def value_Show.f (a0_0 : Int) (a0_1 : Int) (a0_2 : ByteArray) : Option ByteArray :=
  (value_Good.f a0_0 a0_1 a0_2).bind fun g => if g = true then (if a0_0 = 2 then num_Dec.f a0_1 else if a0_0 = 1 then (if a0_1 = 1 then some ⟨#[84, 82, 85, 69]⟩ else some ⟨#[70, 65, 76, 83, 69]⟩) else if a0_0 = 4 then (if 0 ≤ a0_1 ∧ a0_1 < 9 then some (nm a0_1.toNat) else none) else some a0_2) else some ⟨#[63]⟩
theorem run_names {i : Int} (h0 : 0 ≤ i) (h1 : i < 9) (W : World) : (Instr.index 119 (.agg nmRow) (.int .i64 i)).run Tryd.prog W = .ok (.string (nm i.toNat)) W := by
  have hu := Tryd.underlying119
  have hc : Tryd.prog.cellsOf 9 = 1 := by kernel_rfl
  have h : i = 0 ∨ i = 1 ∨ i = 2 ∨ i = 3 ∨ i = 4 ∨ i = 5 ∨ i = 6 ∨ i = 7 ∨ i = 8 := by omega
  rcases h with rfl | rfl | rfl | rfl | rfl | rfl | rfl | rfl | rfl <;> simp [Instr.index, run_underlying hu, asIntOf, nmRow, hc, go_sem] <;> rfl
set_option maxRecDepth 100000 in
theorem value_Show.calls (a0_0 : Int) (a0_1 : Int) (a0_2 : ByteArray) (r : ByteArray) (w : World) (hG : G1 w) (h : value_Show.f a0_0 a0_1 a0_2 = some r) :
    Calls Tryd.prog 81 #[.agg #[.int .i64 a0_0, .int .i64 a0_1, .string a0_2]] w fun e w' => e = .returned (.string r) ∧ Below w.heap.size w w' := by
  have hu := Tryd.underlying23
  have hu9 := Tryd.underlying119
  have HGL := Lib.hid hG
  clear hG
  obtain ⟨g, hg, h'⟩ := Option.bind_eq_some_iff.1 h
  clear h
  have HGD := Lib.hid hg
  clear hg
  cases g
  · rw [if_neg (by simp)] at h'
    obtain rfl := Option.some.inj h'
    clear h'
    go_enter Tryd.func81, Tryd.ntmps81
    go_wp2_with (go_at_call 93; (refine (value_Good.calls a0_0 a0_1 a0_2 false _ HGD.out).mono ?_); rintro e w1 ⟨rfl, hb1⟩)
    go_ret
    exact ⟨rfl, below_step ((Below.refl _ _).alloc (Nat.le_refl _) _) hb1⟩
  · rw [if_pos rfl] at h'
    by_cases c2 : a0_0 = 2
    · rw [if_pos c2] at h'
      subst c2
      have HD := Lib.hid h'
      clear h'
      go_enter Tryd.func81, Tryd.ntmps81
      go_wp2_with (first | (go_at_call 93; (refine (value_Good.calls 2 a0_1 a0_2 true _ HGD.out).mono ?_); rintro e w1 ⟨rfl, hb1⟩; have d := Lib.hid (blk_below (blk_new w (.cells #[.int .i64 2, .int .i64 a0_1, .string a0_2] 23)) hb1); have z0 : w1.cell? ⟨w.heap.size, 0, none⟩ = some (.int .i64 2) := (blk_cell d.out 0).trans rfl; have z1 : w1.cell? ⟨w.heap.size, 1, none⟩ = some (.int .i64 a0_1) := (blk_cell d.out 1).trans rfl; have z2 : w1.cell? ⟨w.heap.size, 2, none⟩ = some (.string a0_2) := (blk_cell d.out 2).trans rfl) | (go_at_call 94; (refine (num_Dec.calls a0_1 r _ (gl_1_1 (below_step ((Below.refl _ _).alloc (Nat.le_refl _) _) hb1) HGL.out) HD.out).mono ?_); rintro e w2 ⟨rfl, hb2⟩))
      go_ret
      exact ⟨rfl, below_step (below_step ((Below.refl _ _).alloc (Nat.le_refl _) _) hb1) hb2⟩
    · rw [if_neg c2] at h'
      by_cases c1 : a0_0 = 1
      · rw [if_pos c1] at h'
        subst c1
        by_cases c3 : a0_1 = 1
        · rw [if_pos c3] at h'
          subst c3
          obtain rfl := Option.some.inj h'
          clear h' c2
          go_enter Tryd.func81, Tryd.ntmps81
          go_wp2_with (first | (go_at_call 93; (refine (value_Good.calls 1 1 a0_2 true _ HGD.out).mono ?_); rintro e w1 ⟨rfl, hb1⟩; have d := Lib.hid (blk_below (blk_new w (.cells #[.int .i64 1, .int .i64 1, .string a0_2] 23)) hb1); have z0 : w1.cell? ⟨w.heap.size, 0, none⟩ = some (.int .i64 1) := (blk_cell d.out 0).trans rfl; have z1 : w1.cell? ⟨w.heap.size, 1, none⟩ = some (.int .i64 1) := (blk_cell d.out 1).trans rfl; have z2 : w1.cell? ⟨w.heap.size, 2, none⟩ = some (.string a0_2) := (blk_cell d.out 2).trans rfl))
          go_ret
          exact ⟨rfl, below_step ((Below.refl _ _).alloc (Nat.le_refl _) _) hb1⟩
        · rw [if_neg c3] at h'
          have e3 : (a0_1 == 1) = false := by simpa using c3
          obtain rfl := Option.some.inj h'
          clear h' c2 c3
          go_enter Tryd.func81, Tryd.ntmps81
          go_wp2_with (first | (go_at_call 93; (refine (value_Good.calls 1 a0_1 a0_2 true _ HGD.out).mono ?_); rintro e w1 ⟨rfl, hb1⟩; have d := Lib.hid (blk_below (blk_new w (.cells #[.int .i64 1, .int .i64 a0_1, .string a0_2] 23)) hb1); have z0 : w1.cell? ⟨w.heap.size, 0, none⟩ = some (.int .i64 1) := (blk_cell d.out 0).trans rfl; have z1 : w1.cell? ⟨w.heap.size, 1, none⟩ = some (.int .i64 a0_1) := (blk_cell d.out 1).trans rfl; have z2 : w1.cell? ⟨w.heap.size, 2, none⟩ = some (.string a0_2) := (blk_cell d.out 2).trans rfl))
          go_ret
          exact ⟨rfl, below_step ((Below.refl _ _).alloc (Nat.le_refl _) _) hb1⟩
      · rw [if_neg c1] at h'
        by_cases c4 : a0_0 = 4
        · rw [if_pos c4] at h'
          subst c4
          split at h'
          · rename_i h9
            obtain ⟨h90, h91⟩ := h9
            obtain rfl := Option.some.inj h'
            have hix := fun W => run_names h90 h91 W
            clear h' c2 c1
            go_enter Tryd.func81, Tryd.ntmps81
            go_wp2_with (first | (go_at_call 93; (refine (value_Good.calls 4 a0_1 a0_2 true _ HGD.out).mono ?_); rintro e w1 ⟨rfl, hb1⟩; have d := Lib.hid (blk_below (blk_new w (.cells #[.int .i64 4, .int .i64 a0_1, .string a0_2] 23)) hb1); have z0 : w1.cell? ⟨w.heap.size, 0, none⟩ = some (.int .i64 4) := (blk_cell d.out 0).trans rfl; have z1 : w1.cell? ⟨w.heap.size, 1, none⟩ = some (.int .i64 a0_1) := (blk_cell d.out 1).trans rfl; have z2 : w1.cell? ⟨w.heap.size, 2, none⟩ = some (.string a0_2) := (blk_cell d.out 2).trans rfl))
            go_region_with (go_at_call 95; refine (value_names.calls _).mono ?_; rintro e w2 ⟨rfl, hb2⟩; have z3 : w2.cell? ⟨w.heap.size, 1, none⟩ = some (.int .i64 a0_1) := (blk_cell (blk_below (show w1.drew.heap[w.heap.size]? = _ from d.out) hb2) 1).trans rfl)
            all_goals (go_wp2_with fail)
            all_goals go_ret
            all_goals exact ⟨rfl, below_step (Below.drew (below_step ((Below.refl _ _).alloc (Nat.le_refl _) _) hb1)) hb2⟩
          · cases h'
        · rw [if_neg c4] at h'
          have e2 : (a0_0 == 2) = false := by simpa using c2
          have e1 : (a0_0 == 1) = false := by simpa using c1
          have e4 : (a0_0 == 4) = false := by simpa using c4
          obtain rfl := Option.some.inj h'
          clear h' c2 c1 c4
          go_enter Tryd.func81, Tryd.ntmps81
          go_wp2_with (first | (go_at_call 93; (refine (value_Good.calls a0_0 a0_1 a0_2 true _ HGD.out).mono ?_); rintro e w1 ⟨rfl, hb1⟩; have d := Lib.hid (blk_below (blk_new w (.cells #[.int .i64 a0_0, .int .i64 a0_1, .string a0_2] 23)) hb1); have z0 : w1.cell? ⟨w.heap.size, 0, none⟩ = some (.int .i64 a0_0) := (blk_cell d.out 0).trans rfl; have z1 : w1.cell? ⟨w.heap.size, 1, none⟩ = some (.int .i64 a0_1) := (blk_cell d.out 1).trans rfl; have z2 : w1.cell? ⟨w.heap.size, 2, none⟩ = some (.string a0_2) := (blk_cell d.out 2).trans rfl))
          go_ret
          exact ⟨rfl, below_step ((Below.refl _ _).alloc (Nat.le_refl _) _) hb1⟩
end Go.Proofs.YtmdmpafdpgdpoaaDoor.P

namespace Go.Proofs.YtmdmpafdpgdpoaaDoor.P
open Go.RowKit Go.Proofs.YtmdmpafdpgdpoaaDoorW.PrintWords Go.Proofs.YtmdmpafdpgdpoaaDoorW.PrintLast Go.Proofs.YtmdmpafdpgdpoaaDoorW.PrintMore
attribute [local go_sem] max2_int min2_int max_two min_two max_three min_three max_four min_four   -- for this text's walks alone
set_option linter.unusedVariables false
set_option linter.unusedSimpArgs false
def value_Str.f (k : Nat) (a0_0 : Int) (a0_1 : Int) (a0_2 : ByteArray) : Option (ByteArray × Int × Int × ByteArray) := (value_fault.f k a0_0 a0_1 a0_2).bind fun bt158 => (if bt158.1 = 0 then ((value_Show.f a0_0 a0_1 a0_2).bind fun t162 => (some (t162, 0, 0, (⟨#[]⟩ : ByteArray)))) else (some ((⟨#[]⟩ : ByteArray), bt158.1, bt158.2.1, bt158.2.2)))
set_option maxHeartbeats 8000000 in
set_option maxRecDepth 100000 in
theorem value_Str.calls (k : Nat) (a0_0 : Int) (a0_1 : Int) (a0_2 : ByteArray) (r1 : ByteArray) (r2 : Int) (r3 : Int) (r4 : ByteArray) (w : World) (hG : G1 w) (h : value_Str.f k a0_0 a0_1 a0_2 = some (r1, r2, r3, r4)) :
    Calls Tryd.prog 64 #[.agg #[.int .i64 a0_0, .int .i64 a0_1, .string a0_2]] w fun e w' => e = .returned (.tuple #[.string r1, .agg #[.int .i64 r2, .int .i64 r3, .string r4]]) ∧ Below w.heap.size w w' := by
  have hu23 := Tryd.underlying23
  have HB := Aside0.mk (Below.refl w.heap.size w)
  have H : ((value_fault.f k a0_0 a0_1 a0_2).bind fun bt158 => (if bt158.1 = 0 then ((value_Show.f a0_0 a0_1 a0_2).bind fun t162 => (some (t162, 0, 0, (⟨#[]⟩ : ByteArray)))) else (some ((⟨#[]⟩ : ByteArray), bt158.1, bt158.2.1, bt158.2.2)))) = some (r1, r2, r3, r4) := h
  clear h
  replace H := Option.bind_eq_some_iff.mp H
  obtain ⟨⟨t158, t159, t160⟩, A20, H⟩ := H
  replace H : (if t158 = 0 then ((value_Show.f a0_0 a0_1 a0_2).bind fun t162 => (some (t162, 0, 0, (⟨#[]⟩ : ByteArray)))) else (some ((⟨#[]⟩ : ByteArray), t158, t159, t160))) = some (r1, r2, r3, r4) := H
  have A2 := Aside0.mk A20
  clear A20
  by_cases c3 : t158 = 0
  · rw [if_pos c3] at H
    have c3b0 : (t158 == 0) = true := beq_iff_eq.mpr c3
    have c3b1 : (t158 != 0) = false := bne_eq_false_iff_eq.mpr c3
    clear c3
    replace H := Option.bind_eq_some_iff.mp H
    obtain ⟨t162, A40, H⟩ := H
    replace H : (some (t162, 0, 0, (⟨#[]⟩ : ByteArray))) = some (r1, r2, r3, r4) := H
    have A4 := Aside0.mk A40
    clear A40
    simp only [Option.some.injEq, Prod.mk.injEq] at H
    obtain ⟨rfl, rfl, rfl, rfl⟩ := H
    go_enter Tryd.func64, Tryd.ntmps64
    go_wp2_with (first | ((with_reducible refine gate_dst (N := 1) rfl ?_); refine box_event ?hg (N := 1) ?hd (cs := #[.int .i64 a0_0, .int .i64 a0_1, .string a0_2]) (t := 23) ?hr ?_; (case hd => rfl); (case hg => rfl); (case hr => first | (go_simp; done) | (go_simp; rfl)); intro gb156 hg w5 hbox hb; have n0_ := Aside0.mk (below_step (by repeat first | with_reducible exact HB.out | apply zS | exact HB.out) hb); have n1_ := Aside0.mk (hbox); have n2_ := Aside0.mk ((by rw [hg]; exact (below_size (by repeat first | with_reducible exact HB.out | apply zS | exact HB.out)) : w.heap.size ≤ gb156)); have n3_ := n2_; clear HB; have HB := n0_; have BK156 := n1_; have GW156 := n2_; have GE156 := n3_; clear n0_ n1_ n2_ n3_; clear hb hbox hg) | ((with_reducible refine gate_dst (N := 3) rfl ?_); refine box_event ?hg (N := 3) ?hd (cs := #[.int .i64 0, .int .i64 0, .string (⟨#[]⟩ : ByteArray)]) (t := 23) ?hr ?_; (case hd => rfl); (case hg => rfl); (case hr => first | (go_simp; done) | (go_simp; rfl)); intro gb157 hg w6 hbox hb; have n0_ := Aside0.mk (blk_below (g := gb156) (o := .cells #[.int .i64 a0_0, .int .i64 a0_1, .string a0_2] 23 (0, 0)) (zB BK156.out) hb); have n1_ := Aside0.mk (below_step (by repeat first | with_reducible exact HB.out | apply zS | refine below_set ?_ GE156.out | exact HB.out) hb); have n2_ := Aside0.mk (hbox); have n3_ := Aside0.mk ((by rw [hg]; exact (below_size (by repeat first | with_reducible exact HB.out | apply zS | refine below_set ?_ GE156.out | exact HB.out)) : w.heap.size ≤ gb157)); have n4_ := n3_; have n5_ := Aside0.mk ((by rw [hg]; exact Nat.ne_of_lt (blk_lt (g := gb156) (o := .cells #[.int .i64 a0_0, .int .i64 a0_1, .string a0_2] 23 (0, 0)) (zB BK156.out)) : gb156 ≠ gb157)); have n6_ := Aside0.mk ((by rw [hg]; exact Nat.ne_of_gt (blk_lt (g := gb156) (o := .cells #[.int .i64 a0_0, .int .i64 a0_1, .string a0_2] 23 (0, 0)) (zB BK156.out)) : gb157 ≠ gb156)); clear BK156; clear HB; have BK156 := n0_; have HB := n1_; have BK157 := n2_; have GW157 := n3_; have GE157 := n4_; have NB156_157 := n5_; have NB157_156 := n6_; clear n0_ n1_ n2_ n3_ n4_ n5_ n6_; clear hb hbox hg; have hnb7 := NB156_157.out; have hnc7 := NB157_156.out; obtain ⟨hcz8_0, hcz8_1, hcz8_2, hfz8_0, hfz8_1, hfz8_2⟩ := zC3 BK156.out) | ((with_reducible refine gate_callee (f := 79) rfl ?_); refine goesL_ (some 6) rfl rfl Tryd.func79 (by kernel_rfl) rfl #[.agg #[.int .i64 a0_0, .int .i64 a0_1, .string a0_2]] rfl (by (try simp only [List.map_toArray, List.map_cons, List.map_nil]); first | done | rfl | (simp only [List.length_drop, List.length_take]; rfl)) ?_; (with_reducible refine (value_fault.calls k a0_0 a0_1 a0_2 t158 t159 t160 _ A2.out).mono ?_); rintro e w9 ⟨rfl, hb⟩; refine ⟨_, rfl, ?_⟩; have n0_ := Aside0.mk (blk_below (g := gb156) (o := .cells #[.int .i64 a0_0, .int .i64 a0_1, .string a0_2] 23 (0, 0)) (zB BK156.out) hb); have n1_ := Aside0.mk (blk_below (g := gb157) (o := .cells #[.int .i64 0, .int .i64 0, .string (⟨#[]⟩ : ByteArray)] 23 (0, 0)) (zB BK157.out) hb); have n2_ := Aside0.mk (below_step (by repeat first | with_reducible exact HB.out | apply zS | refine below_set ?_ GE156.out | refine below_set ?_ GE157.out | exact HB.out) hb); clear BK156; clear BK157; clear HB; have BK156 := n0_; have BK157 := n1_; have HB := n2_; clear n0_ n1_ n2_; (try clear hb); (try clear hb2); (try clear hk); (try clear hi)) | ((with_reducible refine gate_dst (N := 4) rfl ?_); refine box_event ?hg (N := 4) ?hd (cs := #[.int .i64 0, .int .i64 0, .string (⟨#[]⟩ : ByteArray)]) (t := 23) ?hr ?_; (case hd => rfl); (case hg => rfl); (case hr => first | (go_simp; done) | (go_simp; rfl)); intro gb161 hg w10 hbox hb; have n0_ := Aside0.mk (blk_below (g := gb156) (o := .cells #[.int .i64 a0_0, .int .i64 a0_1, .string a0_2] 23 (0, 0)) (zB BK156.out) hb); have n1_ := Aside0.mk (blk_below (g := gb157) (o := .cells #[.int .i64 0, .int .i64 0, .string (⟨#[]⟩ : ByteArray)] 23 (0, 0)) (zB BK157.out) hb); have n2_ := Aside0.mk (below_step (by repeat first | with_reducible exact HB.out | apply zS | refine below_set ?_ GE156.out | refine below_set ?_ GE157.out | exact HB.out) hb); have n3_ := Aside0.mk (hbox); have n4_ := Aside0.mk ((by rw [hg]; exact (below_size (by repeat first | with_reducible exact HB.out | apply zS | refine below_set ?_ GE156.out | refine below_set ?_ GE157.out | exact HB.out)) : w.heap.size ≤ gb161)); have n5_ := n4_; have n6_ := Aside0.mk ((by rw [hg]; exact Nat.ne_of_lt (blk_lt (g := gb156) (o := .cells #[.int .i64 a0_0, .int .i64 a0_1, .string a0_2] 23 (0, 0)) (zB BK156.out)) : gb156 ≠ gb161)); have n7_ := Aside0.mk ((by rw [hg]; exact Nat.ne_of_gt (blk_lt (g := gb156) (o := .cells #[.int .i64 a0_0, .int .i64 a0_1, .string a0_2] 23 (0, 0)) (zB BK156.out)) : gb161 ≠ gb156)); have n8_ := Aside0.mk ((by rw [hg]; exact Nat.ne_of_lt (blk_lt (g := gb157) (o := .cells #[.int .i64 0, .int .i64 0, .string (⟨#[]⟩ : ByteArray)] 23 (0, 0)) (zB BK157.out)) : gb157 ≠ gb161)); have n9_ := Aside0.mk ((by rw [hg]; exact Nat.ne_of_gt (blk_lt (g := gb157) (o := .cells #[.int .i64 0, .int .i64 0, .string (⟨#[]⟩ : ByteArray)] 23 (0, 0)) (zB BK157.out)) : gb161 ≠ gb157)); clear BK156; clear BK157; clear HB; have BK156 := n0_; have BK157 := n1_; have HB := n2_; have BK161 := n3_; have GW161 := n4_; have GE161 := n5_; have NB156_161 := n6_; have NB161_156 := n7_; have NB157_161 := n8_; have NB161_157 := n9_; clear n0_ n1_ n2_ n3_ n4_ n5_ n6_ n7_ n8_ n9_; clear hb hbox hg; have hnb11 := NB161_156.out; have hnc11 := NB156_161.out; have hnb12 := NB161_157.out; have hnc12 := NB157_161.out; obtain ⟨hcz13_0, hcz13_1, hcz13_2, hfz13_0, hfz13_1, hfz13_2⟩ := zC3 BK161.out; obtain ⟨hcz14_0, hcz14_1, hcz14_2, hfz14_0, hfz14_1, hfz14_2⟩ := zC3 BK156.out) | ((with_reducible refine gate_callee (f := 81) rfl ?_); refine goesL_ (some 12) rfl rfl Tryd.func81 (by kernel_rfl) rfl #[.agg #[.int .i64 a0_0, .int .i64 a0_1, .string a0_2]] rfl (by (try simp only [List.map_toArray, List.map_cons, List.map_nil]); first | done | rfl | (simp only [List.length_drop, List.length_take]; rfl)) ?_; (with_reducible refine (value_Show.calls a0_0 a0_1 a0_2 t162 _ ?side1 A4.out).mono ?_); (case side1 => exact gl_1_1 (by repeat first | with_reducible exact HB.out | apply zS | refine below_set ?_ GE156.out | refine below_set ?_ GE157.out | refine below_set ?_ GE161.out | exact HB.out) hG); rintro e w15 ⟨rfl, hb⟩; refine ⟨_, rfl, ?_⟩; have n0_ := Aside0.mk (blk_below (g := gb156) (o := .cells #[.int .i64 a0_0, .int .i64 a0_1, .string a0_2] 23 (0, 0)) (by refine zB (blk_far ?_ NB156_161.out _); refine zB ?_; refine blk_far ?_ NB156_161.out _; refine zB (blk_far ?_ NB156_161.out _); refine zB ?_; exact BK156.out) hb); have n1_ := Aside0.mk (blk_below (g := gb157) (o := .cells #[.int .i64 0, .int .i64 0, .string (⟨#[]⟩ : ByteArray)] 23 (0, 0)) (by refine zB (blk_far ?_ NB157_161.out _); refine zB ?_; refine blk_far ?_ NB157_161.out _; refine zB (blk_far ?_ NB157_161.out _); refine zB ?_; exact BK157.out) hb); have n2_ := Aside0.mk (blk_below (g := gb161) (o := .cells #[.int .i64 t158, .int .i64 t159, .string t160] 23 (0, 0)) (by refine zB ?_; refine blk_put (cs := #[.int .i64 t158, .int .i64 t159, .string (⟨#[]⟩ : ByteArray)]) ?_ 2 _ rfl; refine zB ?_; refine blk_put (cs := #[.int .i64 t158, .int .i64 0, .string (⟨#[]⟩ : ByteArray)]) ?_ 1 _ rfl; refine zB ?_; refine blk_put (cs := #[.int .i64 0, .int .i64 0, .string (⟨#[]⟩ : ByteArray)]) ?_ 0 _ rfl; refine zB ?_; exact BK161.out) hb); have n3_ := Aside0.mk (below_step (by repeat first | with_reducible exact HB.out | apply zS | refine below_set ?_ GE156.out | refine below_set ?_ GE157.out | refine below_set ?_ GE161.out | exact HB.out) hb); clear BK156; clear BK157; clear BK161; clear HB; have BK156 := n0_; have BK157 := n1_; have BK161 := n2_; have HB := n3_; clear n0_ n1_ n2_ n3_; (try clear hb); (try clear hb2); (try clear hk); (try clear hi); obtain ⟨hcz16_0, hcz16_1, hcz16_2, hfz16_0, hfz16_1, hfz16_2⟩ := zC3 BK157.out))
    refine bodyPost_ret (results_tc rfl _ _ gb157 23 #[.int .i64 0, .int .i64 0, .string (⟨#[]⟩ : ByteArray)] (0, 0) _ rfl (by (with_reducible repeat (first | refine blk_drewN ?_ _ | refine blk_drew ?_ | refine blk_alloc ?_ _)); refine blk_put (cs := #[.int .i64 0, .int .i64 0, .string (⟨#[]⟩ : ByteArray)]) ?_ 2 _ rfl; (with_reducible repeat (first | refine blk_drewN ?_ _ | refine blk_drew ?_ | refine blk_alloc ?_ _)); refine blk_put (cs := #[.int .i64 0, .int .i64 0, .string (⟨#[]⟩ : ByteArray)]) ?_ 1 _ rfl; (with_reducible repeat (first | refine blk_drewN ?_ _ | refine blk_drew ?_ | refine blk_alloc ?_ _)); refine blk_put (cs := #[.int .i64 0, .int .i64 0, .string (⟨#[]⟩ : ByteArray)]) ?_ 0 _ rfl; (with_reducible repeat (first | refine blk_drewN ?_ _ | refine blk_drew ?_ | refine blk_alloc ?_ _)); exact BK157.out) Tryd.underlying23 rfl (by kernel_rfl)) rfl ?_
    exact ⟨by first | rfl | (simp [errW_none, errW_some] <;> rfl) | (simp [*, errW_none, errW_some] <;> rfl), by repeat first | with_reducible exact HB.out | apply zS | refine below_set ?_ GE156.out | refine below_set ?_ GE157.out | refine below_set ?_ GE161.out | exact HB.out⟩
  · rw [if_neg c3] at H
    have c3b0 : (t158 == 0) = false := beq_eq_false_iff_ne.mpr c3
    have c3b1 : (t158 != 0) = true := bne_iff_ne.mpr c3
    simp only [Option.some.injEq, Prod.mk.injEq] at H
    obtain ⟨rfl, rfl, rfl, rfl⟩ := H
    go_enter Tryd.func64, Tryd.ntmps64
    try go_wp2_with (first | ((with_reducible refine gate_dst (N := 1) rfl ?_); refine box_event ?hg (N := 1) ?hd (cs := #[.int .i64 a0_0, .int .i64 a0_1, .string a0_2]) (t := 23) ?hr ?_; (case hd => rfl); (case hg => rfl); (case hr => first | (go_simp; done) | (go_simp; rfl)); intro gb156 hg w17 hbox hb; have n0_ := Aside0.mk (below_step (by repeat first | with_reducible exact HB.out | apply zS | exact HB.out) hb); have n1_ := Aside0.mk (hbox); have n2_ := Aside0.mk ((by rw [hg]; exact (below_size (by repeat first | with_reducible exact HB.out | apply zS | exact HB.out)) : w.heap.size ≤ gb156)); have n3_ := n2_; clear HB; have HB := n0_; have BK156 := n1_; have GW156 := n2_; have GE156 := n3_; clear n0_ n1_ n2_ n3_; clear hb hbox hg) | ((with_reducible refine gate_dst (N := 3) rfl ?_); refine box_event ?hg (N := 3) ?hd (cs := #[.int .i64 0, .int .i64 0, .string (⟨#[]⟩ : ByteArray)]) (t := 23) ?hr ?_; (case hd => rfl); (case hg => rfl); (case hr => first | (go_simp; done) | (go_simp; rfl)); intro gb157 hg w18 hbox hb; have n0_ := Aside0.mk (blk_below (g := gb156) (o := .cells #[.int .i64 a0_0, .int .i64 a0_1, .string a0_2] 23 (0, 0)) (zB BK156.out) hb); have n1_ := Aside0.mk (below_step (by repeat first | with_reducible exact HB.out | apply zS | refine below_set ?_ GE156.out | exact HB.out) hb); have n2_ := Aside0.mk (hbox); have n3_ := Aside0.mk ((by rw [hg]; exact (below_size (by repeat first | with_reducible exact HB.out | apply zS | refine below_set ?_ GE156.out | exact HB.out)) : w.heap.size ≤ gb157)); have n4_ := n3_; have n5_ := Aside0.mk ((by rw [hg]; exact Nat.ne_of_lt (blk_lt (g := gb156) (o := .cells #[.int .i64 a0_0, .int .i64 a0_1, .string a0_2] 23 (0, 0)) (zB BK156.out)) : gb156 ≠ gb157)); have n6_ := Aside0.mk ((by rw [hg]; exact Nat.ne_of_gt (blk_lt (g := gb156) (o := .cells #[.int .i64 a0_0, .int .i64 a0_1, .string a0_2] 23 (0, 0)) (zB BK156.out)) : gb157 ≠ gb156)); clear BK156; clear HB; have BK156 := n0_; have HB := n1_; have BK157 := n2_; have GW157 := n3_; have GE157 := n4_; have NB156_157 := n5_; have NB157_156 := n6_; clear n0_ n1_ n2_ n3_ n4_ n5_ n6_; clear hb hbox hg; have hnb19 := NB156_157.out; have hnc19 := NB157_156.out; obtain ⟨hcz20_0, hcz20_1, hcz20_2, hfz20_0, hfz20_1, hfz20_2⟩ := zC3 BK156.out) | ((with_reducible refine gate_callee (f := 79) rfl ?_); refine goesL_ (some 6) rfl rfl Tryd.func79 (by kernel_rfl) rfl #[.agg #[.int .i64 a0_0, .int .i64 a0_1, .string a0_2]] rfl (by (try simp only [List.map_toArray, List.map_cons, List.map_nil]); first | done | rfl | (simp only [List.length_drop, List.length_take]; rfl)) ?_; (with_reducible refine (value_fault.calls k a0_0 a0_1 a0_2 t158 t159 t160 _ A2.out).mono ?_); rintro e w21 ⟨rfl, hb⟩; refine ⟨_, rfl, ?_⟩; have n0_ := Aside0.mk (blk_below (g := gb156) (o := .cells #[.int .i64 a0_0, .int .i64 a0_1, .string a0_2] 23 (0, 0)) (zB BK156.out) hb); have n1_ := Aside0.mk (blk_below (g := gb157) (o := .cells #[.int .i64 0, .int .i64 0, .string (⟨#[]⟩ : ByteArray)] 23 (0, 0)) (zB BK157.out) hb); have n2_ := Aside0.mk (below_step (by repeat first | with_reducible exact HB.out | apply zS | refine below_set ?_ GE156.out | refine below_set ?_ GE157.out | exact HB.out) hb); clear BK156; clear BK157; clear HB; have BK156 := n0_; have BK157 := n1_; have HB := n2_; clear n0_ n1_ n2_; (try clear hb); (try clear hb2); (try clear hk); (try clear hi)) | ((with_reducible refine gate_dst (N := 4) rfl ?_); refine box_event ?hg (N := 4) ?hd (cs := #[.int .i64 0, .int .i64 0, .string (⟨#[]⟩ : ByteArray)]) (t := 23) ?hr ?_; (case hd => rfl); (case hg => rfl); (case hr => first | (go_simp; done) | (go_simp; rfl)); intro gb161 hg w22 hbox hb; have n0_ := Aside0.mk (blk_below (g := gb156) (o := .cells #[.int .i64 a0_0, .int .i64 a0_1, .string a0_2] 23 (0, 0)) (zB BK156.out) hb); have n1_ := Aside0.mk (blk_below (g := gb157) (o := .cells #[.int .i64 0, .int .i64 0, .string (⟨#[]⟩ : ByteArray)] 23 (0, 0)) (zB BK157.out) hb); have n2_ := Aside0.mk (below_step (by repeat first | with_reducible exact HB.out | apply zS | refine below_set ?_ GE156.out | refine below_set ?_ GE157.out | exact HB.out) hb); have n3_ := Aside0.mk (hbox); have n4_ := Aside0.mk ((by rw [hg]; exact (below_size (by repeat first | with_reducible exact HB.out | apply zS | refine below_set ?_ GE156.out | refine below_set ?_ GE157.out | exact HB.out)) : w.heap.size ≤ gb161)); have n5_ := n4_; have n6_ := Aside0.mk ((by rw [hg]; exact Nat.ne_of_lt (blk_lt (g := gb156) (o := .cells #[.int .i64 a0_0, .int .i64 a0_1, .string a0_2] 23 (0, 0)) (zB BK156.out)) : gb156 ≠ gb161)); have n7_ := Aside0.mk ((by rw [hg]; exact Nat.ne_of_gt (blk_lt (g := gb156) (o := .cells #[.int .i64 a0_0, .int .i64 a0_1, .string a0_2] 23 (0, 0)) (zB BK156.out)) : gb161 ≠ gb156)); have n8_ := Aside0.mk ((by rw [hg]; exact Nat.ne_of_lt (blk_lt (g := gb157) (o := .cells #[.int .i64 0, .int .i64 0, .string (⟨#[]⟩ : ByteArray)] 23 (0, 0)) (zB BK157.out)) : gb157 ≠ gb161)); have n9_ := Aside0.mk ((by rw [hg]; exact Nat.ne_of_gt (blk_lt (g := gb157) (o := .cells #[.int .i64 0, .int .i64 0, .string (⟨#[]⟩ : ByteArray)] 23 (0, 0)) (zB BK157.out)) : gb161 ≠ gb157)); clear BK156; clear BK157; clear HB; have BK156 := n0_; have BK157 := n1_; have HB := n2_; have BK161 := n3_; have GW161 := n4_; have GE161 := n5_; have NB156_161 := n6_; have NB161_156 := n7_; have NB157_161 := n8_; have NB161_157 := n9_; clear n0_ n1_ n2_ n3_ n4_ n5_ n6_ n7_ n8_ n9_; clear hb hbox hg; have hnb23 := NB161_156.out; have hnc23 := NB156_161.out; have hnb24 := NB161_157.out; have hnc24 := NB157_161.out; obtain ⟨hcz25_0, hcz25_1, hcz25_2, hfz25_0, hfz25_1, hfz25_2⟩ := zC3 BK161.out))
    have n0_ : Aside0 ((((w22.setCell ⟨gb161, 0, none⟩ (.int .i64 t158)).setCell ⟨gb161, 1, none⟩ (.int .i64 t159)).setCell ⟨gb161, 2, none⟩ (.string t160)).heap[gb156]? = some (.cells #[.int .i64 a0_0, .int .i64 a0_1, .string a0_2] 23 (0, 0))) := ⟨by refine zB (blk_far ?_ NB156_161.out _); refine zB ?_; refine blk_far ?_ NB156_161.out _; refine zB (blk_far ?_ NB156_161.out _); refine zB ?_; exact BK156.out⟩
    have n1_ : Aside0 ((((w22.setCell ⟨gb161, 0, none⟩ (.int .i64 t158)).setCell ⟨gb161, 1, none⟩ (.int .i64 t159)).setCell ⟨gb161, 2, none⟩ (.string t160)).heap[gb157]? = some (.cells #[.int .i64 0, .int .i64 0, .string (⟨#[]⟩ : ByteArray)] 23 (0, 0))) := ⟨by refine zB (blk_far ?_ NB157_161.out _); refine zB ?_; refine blk_far ?_ NB157_161.out _; refine zB (blk_far ?_ NB157_161.out _); refine zB ?_; exact BK157.out⟩
    have n2_ : Aside0 ((((w22.setCell ⟨gb161, 0, none⟩ (.int .i64 t158)).setCell ⟨gb161, 1, none⟩ (.int .i64 t159)).setCell ⟨gb161, 2, none⟩ (.string t160)).heap[gb161]? = some (.cells #[.int .i64 t158, .int .i64 t159, .string t160] 23 (0, 0))) := ⟨by refine zB ?_; refine blk_put (cs := #[.int .i64 t158, .int .i64 t159, .string (⟨#[]⟩ : ByteArray)]) ?_ 2 _ rfl; refine zB ?_; refine blk_put (cs := #[.int .i64 t158, .int .i64 0, .string (⟨#[]⟩ : ByteArray)]) ?_ 1 _ rfl; refine zB ?_; refine blk_put (cs := #[.int .i64 0, .int .i64 0, .string (⟨#[]⟩ : ByteArray)]) ?_ 0 _ rfl; refine zB ?_; exact BK161.out⟩
    have n3_ : Aside0 (Below w.heap.size w (((w22.setCell ⟨gb161, 0, none⟩ (.int .i64 t158)).setCell ⟨gb161, 1, none⟩ (.int .i64 t159)).setCell ⟨gb161, 2, none⟩ (.string t160))) := ⟨by repeat first | with_reducible exact HB.out | apply zS | refine below_set ?_ GE156.out | refine below_set ?_ GE157.out | refine below_set ?_ GE161.out | exact HB.out⟩
    (try clear BK156)
    (try clear BK157)
    (try clear BK161)
    (try clear HB)
    generalize (((w22.setCell ⟨gb161, 0, none⟩ (.int .i64 t158)).setCell ⟨gb161, 1, none⟩ (.int .i64 t159)).setCell ⟨gb161, 2, none⟩ (.string t160)) = w26 at n0_ n1_ n2_ n3_ ⊢
    have BK156 := n0_
    have BK157 := n1_
    have BK161 := n2_
    have HB := n3_
    clear n0_ n1_ n2_ n3_
    have n0_ := Aside0.mk (blk_drew BK156.out)
    have n1_ := Aside0.mk (blk_drew BK157.out)
    have n2_ := Aside0.mk (blk_drew BK161.out)
    have n3_ := Aside0.mk (below_drew1 HB.out)
    clear BK156
    clear BK157
    clear BK161
    clear HB
    have BK156 := n0_
    have BK157 := n1_
    have BK161 := n2_
    have HB := n3_
    clear n0_ n1_ n2_ n3_
    refine start_ (n := 3) (S := fun w' => w'.cell? ⟨gb161, 0, none⟩ = some (.int .i64 t158) ∧ w'.cell? ⟨gb161, 1, none⟩ = some (.int .i64 t159) ∧ w'.cell? ⟨gb161, 2, none⟩ = some (.string t160)) (ds := []) #[false, false, false] (by kernel_rfl) rfl rfl ⟨(blk_cell BK161.out 0).trans rfl, (blk_cell BK161.out 1).trans rfl, (blk_cell BK161.out 2).trans rfl⟩ (fun hHeld => ?_)
    generalize w26.drew = w27 at BK156 BK157 BK161 HB hHeld ⊢
    refine pure_ (i := 1) (N := some 2) (v := ?_) (a' := ?_) #[false, true, false] rfl rfl (by kernel_rfl) (fun _ _ _ h => h) (Or.inl ⟨by rfl, ?_⟩) ?_ ?_
    rotate_left
    · intro w'
      go_simp
      with_reducible rfl
    rotate_left
    · simp only [Act.put, List.setIfInBounds_toArray, List.set_cons_zero, List.set_cons_succ, i64_w, i32_w]
      rfl
    refine take_ (i := 0) (N := some 10) (v := ?_) (a' := ?_) #[true, true, false] rfl rfl (by kernel_rfl) (fun _ _ _ h => h) (Or.inl ⟨by rfl, ?_⟩) hHeld ?_ ?_
    rotate_left
    · rintro w' ⟨s0, s1, s2⟩
      go_simp
      with_reducible rfl
    rotate_left
    · simp only [Act.put, List.setIfInBounds_toArray, List.set_cons_zero, List.set_cons_succ, i64_w, i32_w]
      rfl
    refine one_ (i := 2) (N := none) #[true, true, true] rfl rfl (by kernel_rfl) (by decide) (fun K hK => ?_)
    have hs28 : w27.cell? ⟨gb157, 0, none⟩ = some (.int .i64 0) := (blk_cell BK157.out 0).trans rfl
    have hfs28 := blk_frozen BK157.out 0
    have hns28_0 := NB156_157.out
    have hns28_2 := NB161_157.out
    have hms28_0 := NB157_156.out
    have hms28_2 := NB157_161.out
    have hs29 : w27.cell? ⟨gb157, 1, none⟩ = some (.int .i64 0) := (blk_cell BK157.out 1).trans rfl
    have hfs29 := blk_frozen BK157.out 1
    have hns29_0 := NB156_157.out
    have hns29_2 := NB161_157.out
    have hms29_0 := NB157_156.out
    have hms29_2 := NB157_161.out
    have hs30 : w27.cell? ⟨gb157, 2, none⟩ = some (.string (⟨#[]⟩ : ByteArray)) := (blk_cell BK157.out 2).trans rfl
    have hfs30 := blk_frozen BK157.out 2
    have hns30_0 := NB156_157.out
    have hns30_2 := NB161_157.out
    have hms30_0 := NB157_156.out
    have hms30_2 := NB157_161.out
    refine skip_ (w1 := ?_) (by rfl) rfl ?_ ?_
    rotate_left
    · go_simp
      rfl
    refine hK.out _ _ ⟨((cell_far (p := ⟨gb157, _, none⟩) NB161_157.out _).trans (((cell_far (p := ⟨gb157, _, none⟩) NB161_157.out _).trans (((cell_far (p := ⟨gb157, _, none⟩) NB161_157.out _).trans (hHeld.1)))))), ((cell_far (p := ⟨gb157, _, none⟩) NB161_157.out _).trans (((cell_far (p := ⟨gb157, _, none⟩) NB161_157.out _).trans (((cell_far (p := ⟨gb157, _, none⟩) NB161_157.out _).trans (hHeld.2.1)))))), ((cell_far (p := ⟨gb157, _, none⟩) NB161_157.out _).trans (((cell_far (p := ⟨gb157, _, none⟩) NB161_157.out _).trans (((cell_far (p := ⟨gb157, _, none⟩) NB161_157.out _).trans (hHeld.2.2))))))⟩ (fun hHeld => ?_)
    clear hK K
    refine done_ (by kernel_rfl) ?_
    try go_wp2
    refine bodyPost_ret (results_tc rfl _ _ gb157 23 #[.int .i64 t158, .int .i64 t159, .string t160] (0, 0) _ rfl (by (with_reducible repeat (first | refine blk_drewN ?_ _ | refine blk_drew ?_ | refine blk_alloc ?_ _)); refine blk_put (cs := #[.int .i64 t158, .int .i64 t159, .string (⟨#[]⟩ : ByteArray)]) ?_ 2 _ rfl; (with_reducible repeat (first | refine blk_drewN ?_ _ | refine blk_drew ?_ | refine blk_alloc ?_ _)); refine blk_put (cs := #[.int .i64 t158, .int .i64 0, .string (⟨#[]⟩ : ByteArray)]) ?_ 1 _ rfl; (with_reducible repeat (first | refine blk_drewN ?_ _ | refine blk_drew ?_ | refine blk_alloc ?_ _)); refine blk_put (cs := #[.int .i64 0, .int .i64 0, .string (⟨#[]⟩ : ByteArray)]) ?_ 0 _ rfl; (with_reducible repeat (first | refine blk_drewN ?_ _ | refine blk_drew ?_ | refine blk_alloc ?_ _)); exact BK157.out) Tryd.underlying23 rfl (by kernel_rfl)) rfl ?_
    exact ⟨by first | rfl | (simp [errW_none, errW_some] <;> rfl) | (simp [*, errW_none, errW_some] <;> rfl), by repeat first | with_reducible exact HB.out | apply zS | refine below_set ?_ GE156.out | refine below_set ?_ GE157.out | refine below_set ?_ GE161.out | exact HB.out⟩
end Go.Proofs.YtmdmpafdpgdpoaaDoor.P

namespace Go.Proofs.YtmdmpafdpgdpoaaDoor.P
open Go.RowKit Go.Proofs.YtmdmpafdpgdpoaaDoorW.PrintWords Go.Proofs.YtmdmpafdpgdpoaaDoorW.PrintLast Go.Proofs.YtmdmpafdpgdpoaaDoorW.PrintMore
attribute [local go_sem] max2_int min2_int max_two min_two max_three min_three max_four min_four   -- for this text's walks alone
set_option linter.unusedVariables false
set_option linter.unusedSimpArgs false
def text_long.l0 : Nat → List ByteArray → Int → Int → Option (Bool)
  | 0, _, _, _ => none
  | k + 1, x5, x6, x7 => if x7 < x6 then (if 0 ≤ x7 then (if x7 < (x5.length : Int) then (if ((rdOf ByteArray.empty x5 x7).size : Int) > 200 then (some true) else (text_long.l0 k x5 x6 (wrap64 (x7 + 1)))) else (none)) else (none)) else (some false)
def text_long.f (k : Nat) (l0 : List ByteArray) : Option (Bool) := text_long.l0 k l0 (l0.length : Int) 0
set_option maxHeartbeats 8000000 in
set_option maxRecDepth 100000 in
theorem text_long.calls (k : Nat) (A0 : Option Addr) (c0 : Nat) (l0 : List ByteArray) (r : Bool) (w : World) (hr0 : Kd.C Kd.string w A0 l0.length l0) (hc0 : l0.length ≤ c0) (h : text_long.f k l0 = some r) :
    Calls Tryd.prog 82 #[.slice A0 l0.length c0] w fun e w' => e = .returned (.bool r) ∧ Drawn0 w w' := by
  have HR0 := Aside0.mk hr0
  have HC0 := Aside0.mk hc0
  clear hr0 hc0
  have H : (text_long.l0 k l0 (l0.length : Int) 0) = some r := h
  clear h
  have H' := Aside0.mk H
  clear H
  go_enter Tryd.func82, Tryd.ntmps82
  go_wp2
  go_loopg [7] k (fun kq v7 w' => ∃ (x7_1 : Int), v7 = .int .i64 x7_1 ∧ Aside0 (text_long.l0 kq l0 (l0.length : Int) x7_1 = some r) ∧ Aside0 (kq ≤ k) ∧ Drawn0 w w')
  case atStart => exact ⟨(0), (by first | rfl | (simp; done) | (simp [*]; done)), H', ⟨Nat.le_refl _⟩, by repeat (first | exact Drawn0.refl _ | apply Drawn0.step)⟩
  case round =>
    clear H'
    obtain ⟨x7_1, rfl, HA, HK1, ⟨m1, rfl⟩⟩ := hrel
    cases gk with
    | zero => exact absurd HA.out (by simp [text_long.l0])
    | succ k1 =>
      have H := HA.out
      clear HA
      simp only [text_long.l0] at H
      by_cases c2 : x7_1 < (l0.length : Int)
      · rw [if_pos c2] at H
        have c2b0 : decide (x7_1 < (l0.length : Int)) = true := decide_eq_true c2
        clear c2
        by_cases c3 : 0 ≤ x7_1
        · rw [if_pos c3] at H
          have c3b0 : decide (0 ≤ x7_1) = true := decide_eq_true c3
          clear c3
          by_cases c4 : x7_1 < (l0.length : Int)
          · rw [if_pos c4] at H
            have c4b0 : decide (x7_1 < (l0.length : Int)) = true := decide_eq_true c4
            clear c4
            by_cases c5 : ((rdOf ByteArray.empty l0 x7_1).size : Int) > 200
            · rw [if_pos c5] at H
              have c5b0 : decide (200 < ((rdOf ByteArray.empty l0 x7_1).size : Int)) = true := decide_eq_true c5
              have c5b1 : decide (200 < (rdOf ByteArray.empty l0 x7_1).size) = true := decide_eq_true (by omega)
              clear c5
              obtain rfl := Option.some.inj H
              have p163 : 0 ≤ (x7_1 : Int) := of_decide_eq_true (by first | (with_reducible assumption) | assumption)
              have q163 : x7_1 < (l0.length : Int) := of_decide_eq_true (by first | (with_reducible assumption) | assumption)
              obtain ⟨ad163, e163, hx163_0⟩ := Kd.at_string HR0.out x7_1 p163 q163
              cases e163
              replace p163 := eq_true p163
              replace q163 := eq_true q163
              go_wp2
              go_ret
              exact ⟨by first | rfl | (simp; done) | (simp [*]; done), by repeat (first | exact Drawn0.refl _ | apply Drawn0.step)⟩
            · rw [if_neg c5] at H
              have c5b0 : decide (200 < ((rdOf ByteArray.empty l0 x7_1).size : Int)) = false := decide_eq_false c5
              have c5b1 : decide (200 < (rdOf ByteArray.empty l0 x7_1).size) = false := decide_eq_false (by omega)
              clear c5
              have H' := Aside0.mk H
              clear H
              have p163 : 0 ≤ (x7_1 : Int) := of_decide_eq_true (by first | (with_reducible assumption) | assumption)
              have q163 : x7_1 < (l0.length : Int) := of_decide_eq_true (by first | (with_reducible assumption) | assumption)
              obtain ⟨ad163, e163, hx163_0⟩ := Kd.at_string HR0.out x7_1 p163 q163
              cases e163
              replace p163 := eq_true p163
              replace q163 := eq_true q163
              go_wp2
              go_roundg k1
              case measure => have := HK1.out; omega
              case rel => exact ⟨(wrap64 (x7_1 + 1)), (by first | rfl | (simp; done) | (simp [*]; done)), H', ⟨by have := HK1.out; omega⟩, by repeat (first | exact Drawn0.refl _ | apply Drawn0.step)⟩
          · rw [if_neg c4] at H
            exact absurd H (by simp)
        · rw [if_neg c3] at H
          exact absurd H (by simp)
      · rw [if_neg c2] at H
        have c2b0 : decide (x7_1 < (l0.length : Int)) = false := decide_eq_false c2
        clear c2
        obtain rfl := Option.some.inj H
        go_wp2
        go_ret
        exact ⟨by first | rfl | (simp; done) | (simp [*]; done), by repeat (first | exact Drawn0.refl _ | apply Drawn0.step)⟩
end Go.Proofs.YtmdmpafdpgdpoaaDoor.P

namespace Go.Proofs.YtmdmpafdpgdpoaaDoor.P
open Go.RowKit Go.Proofs.YtmdmpafdpgdpoaaDoorW.PrintWords Go.Proofs.YtmdmpafdpgdpoaaDoorW.PrintLast Go.Proofs.YtmdmpafdpgdpoaaDoorW.PrintMore
attribute [local go_sem] max2_int min2_int max_two min_two max_three min_three max_four min_four   -- for this text's walks alone
set_option linter.unusedVariables false
set_option linter.unusedSimpArgs false
def text_Join.f (k : Nat) (a0 : ByteArray) (a1 : ByteArray) : Option (Int × Int × ByteArray) := (text_long.f k (([a0, a1] : List ByteArray))).bind fun t168 => (if t168 = true then ((value_Fail.f 7).bind fun bt169 => (some (bt169.1, bt169.2.1, bt169.2.2))) else (if a0.size + a1.size ≤ 9223372036854775807 then ((value_Of.f (a0 ++ a1)).bind fun bt172 => (some (bt172.1, bt172.2.1, bt172.2.2))) else (none)))
set_option maxHeartbeats 8000000 in
set_option maxRecDepth 100000 in
theorem text_Join.calls (k : Nat) (a0 : ByteArray) (a1 : ByteArray) (r1 : Int) (r2 : Int) (r3 : ByteArray) (w : World) (h : text_Join.f k a0 a1 = some (r1, r2, r3)) :
    Calls Tryd.prog 65 #[.string a0, .string a1] w fun e w' => e = .returned (.agg #[.int .i64 r1, .int .i64 r2, .string r3]) ∧ Below w.heap.size w w' := by
  have hu23 := Tryd.underlying23
  have HB := Aside0.mk (Below.refl w.heap.size w)
  have H : ((text_long.f k (([a0, a1] : List ByteArray))).bind fun t168 => (if t168 = true then ((value_Fail.f 7).bind fun bt169 => (some (bt169.1, bt169.2.1, bt169.2.2))) else (if a0.size + a1.size ≤ 9223372036854775807 then ((value_Of.f (a0 ++ a1)).bind fun bt172 => (some (bt172.1, bt172.2.1, bt172.2.2))) else (none)))) = some (r1, r2, r3) := h
  clear h
  obtain ⟨y165, hy165⟩ : ∃ y_ : List ByteArray, y_ = (([a0, a1] : List ByteArray)) := ⟨_, rfl⟩
  replace H : ((text_long.f k y165).bind fun t168 => (if t168 = true then ((value_Fail.f 7).bind fun bt169 => (some (bt169.1, bt169.2.1, bt169.2.2))) else (if a0.size + a1.size ≤ 9223372036854775807 then ((value_Of.f (a0 ++ a1)).bind fun bt172 => (some (bt172.1, bt172.2.1, bt172.2.2))) else (none)))) = some (r1, r2, r3) := by first | (rw [hy165]; with_reducible exact H) | (have H2_ := (Option.bind_some _ _).symm.trans H; rw [hy165]; with_reducible exact H2_) | (have H2_ := (Option.bind_some _ _).symm.trans H; with_reducible exact H2_) | with_reducible exact H | (rw [hy165]; exact H) | exact H
  have Ny165 := Aside0.mk hy165
  clear hy165
  replace H := Option.bind_eq_some_iff.mp H
  obtain ⟨t168, A30, H⟩ := H
  replace H : (if t168 = true then ((value_Fail.f 7).bind fun bt169 => (some (bt169.1, bt169.2.1, bt169.2.2))) else (if a0.size + a1.size ≤ 9223372036854775807 then ((value_Of.f (a0 ++ a1)).bind fun bt172 => (some (bt172.1, bt172.2.1, bt172.2.2))) else (none))) = some (r1, r2, r3) := H
  have A3 := Aside0.mk A30
  clear A30
  by_cases c4 : t168 = true
  · subst c4
    have H1 : ((value_Fail.f 7).bind fun bt169 => (some (bt169.1, bt169.2.1, bt169.2.2))) = some (r1, r2, r3) := by rw [if_pos rfl] at H; exact H
    clear H
    have H := H1
    clear H1
    replace H := Option.bind_eq_some_iff.mp H
    obtain ⟨⟨t169, t170, t171⟩, A50, H⟩ := H
    replace H : (some (t169, t170, t171)) = some (r1, r2, r3) := H
    have A5 := Aside0.mk A50
    clear A50
    simp only [Option.some.injEq, Prod.mk.injEq] at H
    obtain ⟨rfl, rfl, rfl⟩ := H
    go_enter Tryd.func65, Tryd.ntmps65
    go_wp2_with (first | ((with_reducible refine gate_dst (N := 4) rfl ?_); refine box_event ?hg (N := 4) ?hd (cs := #[.int .i64 0, .int .i64 0, .string (⟨#[]⟩ : ByteArray)]) (t := 23) ?hr ?_; (case hd => rfl); (case hg => rfl); (case hr => first | (go_simp; done) | (go_simp; rfl)); intro gb164 hg w6 hbox hb; have n0_ := Aside0.mk (below_step (by repeat first | with_reducible exact HB.out | apply zS | exact HB.out) hb); have n1_ := Aside0.mk (hbox); have n2_ := Aside0.mk ((by rw [hg]; exact (below_size (by repeat first | with_reducible exact HB.out | apply zS | exact HB.out)) : w.heap.size ≤ gb164)); have n3_ := n2_; clear HB; have HB := n0_; have BK164 := n1_; have GW164 := n2_; have GE164 := n3_; clear n0_ n1_ n2_ n3_; clear hb hbox hg) | ((with_reducible refine gate_dst (N := 7) rfl ?_); refine Kd.R_lit Kd.string _ 9 ?hg (N := 7) ?hd (xs := ([a0, a1] : List ByteArray)) (inner := [.string a0, .string a1]) (ok := fun _ => True) (okp := fun _ => True) ?hr ?hp (fun _ hk => hk) trivial (Below.refl _ _) (Nat.le_refl _) (by simp) ?_; (case hd => rfl); (case hg => rfl); (case hr => first | (go_simp; done) | (go_simp; rfl)); (case hp => exact (Reps.one (show Kd.M Kd.string _ _ _ a0 [.string a0] from rfl) (Reps.one (show Kd.M Kd.string _ _ _ a1 [.string a1] from rfl) (Reps.none _ _)))); intro v166 w7 ho8 hb hg_ hnew_; clear hg_ hnew_; (first | rw [← Ny165.out] at ho8 | (simp only [Int.reduceToNat] at ho8; rw [← Ny165.out] at ho8)); have n0_ := Aside0.mk (Kd.R_lower ho8 (below_size (by repeat first | with_reducible exact HB.out | apply zS | refine below_set ?_ GE164.out | exact HB.out))); have n1_ := Aside0.mk (blk_below (g := gb164) (o := .cells #[.int .i64 0, .int .i64 0, .string (⟨#[]⟩ : ByteArray)] 23 (0, 0)) (zB BK164.out) hb); have n2_ := Aside0.mk (below_step (by repeat first | with_reducible exact HB.out | apply zS | refine below_set ?_ GE164.out | exact HB.out) hb); clear BK164; clear HB; have HO167 := n0_; have BK164 := n1_; have HB := n2_; clear n0_ n1_ n2_; clear hb ho8; obtain ⟨Ao9, co9, eo9⟩ := Kd.R_slice HO167.out; subst eo9) | ((with_reducible refine gate_callee (f := 82) rfl ?_); refine goesL_ (some 8) rfl rfl Tryd.func82 (by kernel_rfl) rfl #[.slice Ao9 y165.length co9] rfl (by (try simp only [List.map_toArray, List.map_cons, List.map_nil]); first | done | rfl | (simp only [List.length_drop, List.length_take]; rfl)) ?_; (with_reducible refine (text_long.calls k _ _ y165 true _ ?side1 ?side2 A3.out).mono ?_); (case side1 => repeat (first | exact (Kd.R_reads' HO167.out).2.2 | (with_reducible refine Kd.C_alloc ?_ _) | (with_reducible refine Kd.C_drewN ?_ _) | (with_reducible refine Kd.C_drew ?_))); (case side2 => exact (Kd.R_reads' HO167.out).2.1); rintro e w' ⟨rfl, ⟨nd, rfl⟩⟩; refine ⟨_, rfl, ?_⟩; (try (rw [drewN_self w7]; generalize hq_ : World.drewN w7 _ = w7; have n0_ : Aside0 (Kd.R Kd.string 9 w7 w.heap.size (fun _ => True) (.slice Ao9 y165.length co9) y165) := ⟨by rw [← hq_]; exact (by (with_reducible repeat (first | apply Kd.R_alloc | apply Kd.R_drewN | apply Kd.R_drew)); exact HO167.out)⟩; have n1_ : Aside0 (w7.heap[gb164]? = some (.cells #[.int .i64 0, .int .i64 0, .string (⟨#[]⟩ : ByteArray)] 23 (0, 0))) := ⟨by rw [← hq_]; exact (zB BK164.out)⟩; have n2_ : Aside0 (Below w.heap.size w w7) := ⟨by rw [← hq_]; exact (by repeat first | with_reducible exact HB.out | apply zS | refine below_set ?_ GE164.out | exact HB.out)⟩; clear HO167 BK164 HB hq_; have HO167 := n0_; have BK164 := n1_; have HB := n2_; clear n0_ n1_ n2_))) | ((with_reducible refine gate_callee (f := 30) rfl ?_); refine goesL_ (some 9) rfl rfl Tryd.func30 (by kernel_rfl) rfl #[.int .i64 7] rfl (by (try simp only [List.map_toArray, List.map_cons, List.map_nil]); first | done | rfl | (simp only [List.length_drop, List.length_take]; rfl)) ?_; (with_reducible refine (value_Fail.calls 7 t169 t170 t171 _ A5.out).mono ?_); rintro e w10 ⟨rfl, hb⟩; refine ⟨_, rfl, ?_⟩; have n0_ := Aside0.mk (Kd.R_below (by (with_reducible repeat (first | apply Kd.R_alloc | apply Kd.R_drewN | apply Kd.R_drew)); exact HO167.out) hb); have n1_ := Aside0.mk (blk_below (g := gb164) (o := .cells #[.int .i64 0, .int .i64 0, .string (⟨#[]⟩ : ByteArray)] 23 (0, 0)) (zB BK164.out) hb); have n2_ := Aside0.mk (below_step (by repeat first | with_reducible exact HB.out | apply zS | refine below_set ?_ GE164.out | exact HB.out) hb); clear HO167; clear BK164; clear HB; have HO167 := n0_; have BK164 := n1_; have HB := n2_; clear n0_ n1_ n2_; (try clear hb); (try clear hb2); (try clear hk); (try clear hi); obtain ⟨hcz11_0, hcz11_1, hcz11_2, hfz11_0, hfz11_1, hfz11_2⟩ := zC3 BK164.out))
    refine bodyPost_ret (results_cell_row rfl _ _ gb164 23 #[.int .i64 t169, .int .i64 t170, .string t171] (0, 0) _ rfl (by refine zB ?_; refine blk_put (cs := #[.int .i64 t169, .int .i64 t170, .string (⟨#[]⟩ : ByteArray)]) ?_ 2 _ rfl; refine zB ?_; refine blk_put (cs := #[.int .i64 t169, .int .i64 0, .string (⟨#[]⟩ : ByteArray)]) ?_ 1 _ rfl; refine zB ?_; refine blk_put (cs := #[.int .i64 0, .int .i64 0, .string (⟨#[]⟩ : ByteArray)]) ?_ 0 _ rfl; refine zB ?_; exact BK164.out) Tryd.underlying23 rfl (by kernel_rfl)) rfl ?_
    exact ⟨by first | rfl | (simp [errW_none, errW_some] <;> rfl) | (simp [*, errW_none, errW_some] <;> rfl), by repeat first | with_reducible exact HB.out | apply zS | refine below_set ?_ GE164.out | exact HB.out⟩
  · replace c4 := Bool.eq_false_iff.mpr c4
    subst c4
    have H1 : (if a0.size + a1.size ≤ 9223372036854775807 then ((value_Of.f (a0 ++ a1)).bind fun bt172 => (some (bt172.1, bt172.2.1, bt172.2.2))) else (none)) = some (r1, r2, r3) := by rw [if_neg (show ¬ (false = true) by decide)] at H; exact H
    clear H
    have H := H1
    clear H1
    by_cases c12 : a0.size + a1.size ≤ 9223372036854775807
    · rw [if_pos c12] at H
      have c12b0 := eq_true c12
      have c12b1 : decide (a0.size + a1.size ≤ 9223372036854775807) = true := decide_eq_true c12
      try have c12b2 : (9223372036854775807 < a0.size + a1.size) = False := eq_false (Nat.not_lt.2 c12)
      replace H := Option.bind_eq_some_iff.mp H
      obtain ⟨⟨t172, t173, t174⟩, A130, H⟩ := H
      replace H : (some (t172, t173, t174)) = some (r1, r2, r3) := H
      have A13 := Aside0.mk A130
      clear A130
      simp only [Option.some.injEq, Prod.mk.injEq] at H
      obtain ⟨rfl, rfl, rfl⟩ := H
      go_enter Tryd.func65, Tryd.ntmps65
      go_wp2_with (first | ((with_reducible refine gate_dst (N := 4) rfl ?_); refine box_event ?hg (N := 4) ?hd (cs := #[.int .i64 0, .int .i64 0, .string (⟨#[]⟩ : ByteArray)]) (t := 23) ?hr ?_; (case hd => rfl); (case hg => rfl); (case hr => first | (go_simp; done) | (go_simp; rfl)); intro gb164 hg w14 hbox hb; have n0_ := Aside0.mk (below_step (by repeat first | with_reducible exact HB.out | apply zS | exact HB.out) hb); have n1_ := Aside0.mk (hbox); have n2_ := Aside0.mk ((by rw [hg]; exact (below_size (by repeat first | with_reducible exact HB.out | apply zS | exact HB.out)) : w.heap.size ≤ gb164)); have n3_ := n2_; clear HB; have HB := n0_; have BK164 := n1_; have GW164 := n2_; have GE164 := n3_; clear n0_ n1_ n2_ n3_; clear hb hbox hg) | ((with_reducible refine gate_dst (N := 7) rfl ?_); refine Kd.R_lit Kd.string _ 9 ?hg (N := 7) ?hd (xs := ([a0, a1] : List ByteArray)) (inner := [.string a0, .string a1]) (ok := fun _ => True) (okp := fun _ => True) ?hr ?hp (fun _ hk => hk) trivial (Below.refl _ _) (Nat.le_refl _) (by simp) ?_; (case hd => rfl); (case hg => rfl); (case hr => first | (go_simp; done) | (go_simp; rfl)); (case hp => exact (Reps.one (show Kd.M Kd.string _ _ _ a0 [.string a0] from rfl) (Reps.one (show Kd.M Kd.string _ _ _ a1 [.string a1] from rfl) (Reps.none _ _)))); intro v166 w15 ho16 hb hg_ hnew_; clear hg_ hnew_; (first | rw [← Ny165.out] at ho16 | (simp only [Int.reduceToNat] at ho16; rw [← Ny165.out] at ho16)); have n0_ := Aside0.mk (Kd.R_lower ho16 (below_size (by repeat first | with_reducible exact HB.out | apply zS | refine below_set ?_ GE164.out | exact HB.out))); have n1_ := Aside0.mk (blk_below (g := gb164) (o := .cells #[.int .i64 0, .int .i64 0, .string (⟨#[]⟩ : ByteArray)] 23 (0, 0)) (zB BK164.out) hb); have n2_ := Aside0.mk (below_step (by repeat first | with_reducible exact HB.out | apply zS | refine below_set ?_ GE164.out | exact HB.out) hb); clear BK164; clear HB; have HO167 := n0_; have BK164 := n1_; have HB := n2_; clear n0_ n1_ n2_; clear hb ho16; obtain ⟨Ao17, co17, eo17⟩ := Kd.R_slice HO167.out; subst eo17) | ((with_reducible refine gate_callee (f := 82) rfl ?_); refine goesL_ (some 8) rfl rfl Tryd.func82 (by kernel_rfl) rfl #[.slice Ao17 y165.length co17] rfl (by (try simp only [List.map_toArray, List.map_cons, List.map_nil]); first | done | rfl | (simp only [List.length_drop, List.length_take]; rfl)) ?_; (with_reducible refine (text_long.calls k _ _ y165 false _ ?side1 ?side2 A3.out).mono ?_); (case side1 => repeat (first | exact (Kd.R_reads' HO167.out).2.2 | (with_reducible refine Kd.C_alloc ?_ _) | (with_reducible refine Kd.C_drewN ?_ _) | (with_reducible refine Kd.C_drew ?_))); (case side2 => exact (Kd.R_reads' HO167.out).2.1); rintro e w' ⟨rfl, ⟨nd, rfl⟩⟩; refine ⟨_, rfl, ?_⟩; (try (rw [drewN_self w15]; generalize hq_ : World.drewN w15 _ = w15; have n0_ : Aside0 (Kd.R Kd.string 9 w15 w.heap.size (fun _ => True) (.slice Ao17 y165.length co17) y165) := ⟨by rw [← hq_]; exact (by (with_reducible repeat (first | apply Kd.R_alloc | apply Kd.R_drewN | apply Kd.R_drew)); exact HO167.out)⟩; have n1_ : Aside0 (w15.heap[gb164]? = some (.cells #[.int .i64 0, .int .i64 0, .string (⟨#[]⟩ : ByteArray)] 23 (0, 0))) := ⟨by rw [← hq_]; exact (zB BK164.out)⟩; have n2_ : Aside0 (Below w.heap.size w w15) := ⟨by rw [← hq_]; exact (by repeat first | with_reducible exact HB.out | apply zS | refine below_set ?_ GE164.out | exact HB.out)⟩; clear HO167 BK164 HB hq_; have HO167 := n0_; have BK164 := n1_; have HB := n2_; clear n0_ n1_ n2_))) | ((with_reducible refine gate_callee (f := 63) rfl ?_); refine goesL_ (some 13) rfl rfl Tryd.func63 (by kernel_rfl) rfl #[.string (a0 ++ a1)] rfl (by (try simp only [List.map_toArray, List.map_cons, List.map_nil]); first | done | rfl | (simp only [List.length_drop, List.length_take]; rfl)) ?_; (with_reducible refine (value_Of.calls (a0 ++ a1) t172 t173 t174 _ A13.out).mono ?_); rintro e w18 ⟨rfl, hb⟩; refine ⟨_, rfl, ?_⟩; have n0_ := Aside0.mk (Kd.R_below (by (with_reducible repeat (first | apply Kd.R_alloc | apply Kd.R_drewN | apply Kd.R_drew)); exact HO167.out) hb); have n1_ := Aside0.mk (blk_below (g := gb164) (o := .cells #[.int .i64 0, .int .i64 0, .string (⟨#[]⟩ : ByteArray)] 23 (0, 0)) (zB BK164.out) hb); have n2_ := Aside0.mk (below_step (by repeat first | with_reducible exact HB.out | apply zS | refine below_set ?_ GE164.out | exact HB.out) hb); clear HO167; clear BK164; clear HB; have HO167 := n0_; have BK164 := n1_; have HB := n2_; clear n0_ n1_ n2_; (try clear hb); (try clear hb2); (try clear hk); (try clear hi); obtain ⟨hcz19_0, hcz19_1, hcz19_2, hfz19_0, hfz19_1, hfz19_2⟩ := zC3 BK164.out))
      refine bodyPost_ret (results_cell_row rfl _ _ gb164 23 #[.int .i64 t172, .int .i64 t173, .string t174] (0, 0) _ rfl (by refine zB ?_; refine blk_put (cs := #[.int .i64 t172, .int .i64 t173, .string (⟨#[]⟩ : ByteArray)]) ?_ 2 _ rfl; refine zB ?_; refine blk_put (cs := #[.int .i64 t172, .int .i64 0, .string (⟨#[]⟩ : ByteArray)]) ?_ 1 _ rfl; refine zB ?_; refine blk_put (cs := #[.int .i64 0, .int .i64 0, .string (⟨#[]⟩ : ByteArray)]) ?_ 0 _ rfl; refine zB ?_; exact BK164.out) Tryd.underlying23 rfl (by kernel_rfl)) rfl ?_
      exact ⟨by first | rfl | (simp [errW_none, errW_some] <;> rfl) | (simp [*, errW_none, errW_some] <;> rfl), by repeat first | with_reducible exact HB.out | apply zS | refine below_set ?_ GE164.out | exact HB.out⟩
    · rw [if_neg c12] at H
      exact absurd H (by simp)
end Go.Proofs.YtmdmpafdpgdpoaaDoor.P

namespace Go.Proofs.YtmdmpafdpgdpoaaDoor.P
open Go.RowKit Go.Proofs.YtmdmpafdpgdpoaaDoorW.PrintWords Go.Proofs.YtmdmpafdpgdpoaaDoorW.PrintLast Go.Proofs.YtmdmpafdpgdpoaaDoorW.PrintMore
attribute [local go_sem] max2_int min2_int max_two min_two max_three min_three max_four min_four   -- for this text's walks alone
set_option linter.unusedVariables false
set_option linter.unusedSimpArgs false
def fold_joined.l0 : Nat → List (S23) → Int → Int → Int → Int → ByteArray → Option (Int × Int × ByteArray)
  | 0, _, _, _, _, _, _ => none
  | k + 1, x9, x10, x11, x180000, x180001, x180002 => if x11 < x10 then (if 0 ≤ x11 then (if x11 < (x9.length : Int) then ((value_Str.f k ((rd_T23 x9 x11).f0) ((rd_T23 x9 x11).f1) ((rd_T23 x9 x11).f2)).bind fun bt182 => (if bt182.2.1 = 0 then ((text_Join.f k x180002 bt182.1).bind fun bt187 => (if bt187.1 = 4 then (some (bt187.1, bt187.2.1, bt187.2.2)) else (fold_joined.l0 k x9 x10 (wrap64 (x11 + 1)) bt187.1 bt187.2.1 bt187.2.2))) else (some (bt182.2.1, bt182.2.2.1, bt182.2.2.2)))) else (none)) else (none)) else (some (x180000, x180001, x180002))
def fold_joined.f (k : Nat) (l0 : List (S23)) : Option (Int × Int × ByteArray) := (value_Of.f (⟨#[]⟩ : ByteArray)).bind fun bt176 => (fold_joined.l0 k l0 (l0.length : Int) 0 bt176.1 bt176.2.1 bt176.2.2)
set_option maxHeartbeats 8000000 in
set_option maxRecDepth 100000 in
theorem fold_joined.calls (k : Nat) (A0 : Option Addr) (c0 : Nat) (l0 : List (S23)) (r1 : Int) (r2 : Int) (r3 : ByteArray) (w : World) (hr0 : Kd.C k23 w A0 l0.length l0) (hc0 : l0.length ≤ c0) (hG : G1 w) (h : fold_joined.f k l0 = some (r1, r2, r3)) :
    Calls Tryd.prog 46 #[.slice A0 l0.length c0] w fun e w' => e = .returned (.agg #[.int .i64 r1, .int .i64 r2, .string r3]) ∧ Below w.heap.size w w' := by
  have hu23 := Tryd.underlying23
  have HR0 := Aside0.mk hr0
  have HC0 := Aside0.mk hc0
  clear hr0 hc0
  have HB := Aside0.mk (Below.refl w.heap.size w)
  have H : ((value_Of.f (⟨#[]⟩ : ByteArray)).bind fun bt176 => (fold_joined.l0 k l0 (l0.length : Int) 0 bt176.1 bt176.2.1 bt176.2.2)) = some (r1, r2, r3) := h
  clear h
  replace H := Option.bind_eq_some_iff.mp H
  obtain ⟨⟨t176, t177, t178⟩, A20, H⟩ := H
  replace H : (fold_joined.l0 k l0 (l0.length : Int) 0 t176 t177 t178) = some (r1, r2, r3) := H
  have A2 := Aside0.mk A20
  clear A20
  have H' := Aside0.mk H
  clear H
  go_enter Tryd.func46, Tryd.ntmps46
  go_wp2_with (first | ((with_reducible refine gate_dst (N := 2) rfl ?_); refine box_event ?hg (N := 2) ?hd (cs := #[.int .i64 0, .int .i64 0, .string (⟨#[]⟩ : ByteArray)]) (t := 23) ?hr ?_; (case hd => rfl); (case hg => rfl); (case hr => first | (go_simp; done) | (go_simp; rfl)); intro gb175 hg w3 hbox hb; have n0_ := Aside0.mk (below_step (by repeat first | with_reducible exact HB.out | apply zS | exact HB.out) hb); have n1_ := Aside0.mk (hbox); have n2_ := Aside0.mk ((by rw [hg]; exact (below_size (by repeat first | with_reducible exact HB.out | apply zS | exact HB.out)) : w.heap.size ≤ gb175)); have n3_ := n2_; clear HB; have HB := n0_; have BK175 := n1_; have GW175 := n2_; have GE175 := n3_; clear n0_ n1_ n2_ n3_; clear hb hbox hg) | ((with_reducible refine gate_callee (f := 63) rfl ?_); refine goesL_ (some 8) rfl rfl Tryd.func63 (by kernel_rfl) rfl #[.string (⟨#[]⟩ : ByteArray)] rfl (by (try simp only [List.map_toArray, List.map_cons, List.map_nil]); first | done | rfl | (simp only [List.length_drop, List.length_take]; rfl)) ?_; (with_reducible refine (value_Of.calls (⟨#[]⟩ : ByteArray) t176 t177 t178 _ A2.out).mono ?_); rintro e w4 ⟨rfl, hb⟩; refine ⟨_, rfl, ?_⟩; have n0_ := Aside0.mk (blk_below (g := gb175) (o := .cells #[.int .i64 0, .int .i64 0, .string (⟨#[]⟩ : ByteArray)] 23 (0, 0)) (zB BK175.out) hb); have n1_ := Aside0.mk (below_step (by repeat first | with_reducible exact HB.out | apply zS | refine below_set ?_ GE175.out | exact HB.out) hb); clear BK175; clear HB; have BK175 := n0_; have HB := n1_; clear n0_ n1_; (try clear hb); (try clear hb2); (try clear hk); (try clear hi)) | ((with_reducible refine gate_dst (N := 3) rfl ?_); refine box_event ?hg (N := 3) ?hd (cs := #[.int .i64 0, .int .i64 0, .string (⟨#[]⟩ : ByteArray)]) (t := 23) ?hr ?_; (case hd => rfl); (case hg => rfl); (case hr => first | (go_simp; done) | (go_simp; rfl)); intro gb179 hg w5 hbox hb; have n0_ := Aside0.mk (blk_below (g := gb175) (o := .cells #[.int .i64 0, .int .i64 0, .string (⟨#[]⟩ : ByteArray)] 23 (0, 0)) (zB BK175.out) hb); have n1_ := Aside0.mk (below_step (by repeat first | with_reducible exact HB.out | apply zS | refine below_set ?_ GE175.out | exact HB.out) hb); have n2_ := Aside0.mk (hbox); have n3_ := Aside0.mk ((by rw [hg]; exact (below_size (by repeat first | with_reducible exact HB.out | apply zS | refine below_set ?_ GE175.out | exact HB.out)) : w.heap.size ≤ gb179)); have n4_ := n3_; have n5_ := Aside0.mk ((by rw [hg]; exact Nat.ne_of_lt (blk_lt (g := gb175) (o := .cells #[.int .i64 0, .int .i64 0, .string (⟨#[]⟩ : ByteArray)] 23 (0, 0)) (zB BK175.out)) : gb175 ≠ gb179)); have n6_ := Aside0.mk ((by rw [hg]; exact Nat.ne_of_gt (blk_lt (g := gb175) (o := .cells #[.int .i64 0, .int .i64 0, .string (⟨#[]⟩ : ByteArray)] 23 (0, 0)) (zB BK175.out)) : gb179 ≠ gb175)); clear BK175; clear HB; have BK175 := n0_; have HB := n1_; have BK179 := n2_; have GW179 := n3_; have GE179 := n4_; have NB175_179 := n5_; have NB179_175 := n6_; clear n0_ n1_ n2_ n3_ n4_ n5_ n6_; clear hb hbox hg; have hnb6 := NB179_175.out; have hnc6 := NB175_179.out; obtain ⟨hcz7_0, hcz7_1, hcz7_2, hfz7_0, hfz7_1, hfz7_2⟩ := zC3 BK179.out))
  go_loopg [11] k (fun kq v11 w' => ∃ (x11_1 : Int) (x176000_1 : Int) (x176001_1 : Int) (x176002_1 : ByteArray) (x180000_1 : Int) (x180001_1 : Int) (x180002_1 : ByteArray), v11 = .int .i64 x11_1 ∧ Aside0 (fold_joined.l0 kq l0 (l0.length : Int) x11_1 x180000_1 x180001_1 x180002_1 = some (r1, r2, r3)) ∧ Aside0 (kq ≤ k) ∧ Aside0 (w'.heap[gb175]? = some (.cells #[.int .i64 x176000_1, .int .i64 x176001_1, .string x176002_1] 23 (0, 0))) ∧ Aside0 (w'.heap[gb179]? = some (.cells #[.int .i64 x180000_1, .int .i64 x180001_1, .string x180002_1] 23 (0, 0))) ∧ Aside0 (Below w.heap.size w w'))
  case atStart => exact ⟨(0), (0), (0), ((⟨#[]⟩ : ByteArray)), (t176), (t177), (t178), (by first | rfl | (simp; done) | (simp [*]; done)), H', ⟨Nat.le_refl _⟩, ⟨by refine zB (blk_far ?_ NB175_179.out _); refine zB ?_; refine blk_far ?_ NB175_179.out _; refine zB (blk_far ?_ NB175_179.out _); refine zB ?_; exact BK175.out⟩, ⟨by refine zB ?_; refine blk_put (cs := #[.int .i64 t176, .int .i64 t177, .string (⟨#[]⟩ : ByteArray)]) ?_ 2 _ rfl; refine zB ?_; refine blk_put (cs := #[.int .i64 t176, .int .i64 0, .string (⟨#[]⟩ : ByteArray)]) ?_ 1 _ rfl; refine zB ?_; refine blk_put (cs := #[.int .i64 0, .int .i64 0, .string (⟨#[]⟩ : ByteArray)]) ?_ 0 _ rfl; refine zB ?_; exact BK179.out⟩, ⟨by repeat first | with_reducible exact HB.out | apply zS | refine below_set ?_ GE175.out | refine below_set ?_ GE179.out | exact HB.out⟩⟩
  case round =>
    clear H'
    try clear p2
    try clear c4
    try clear c6
    try clear hcz7_0
    try clear hcz7_1
    try clear hcz7_2
    try clear hfz7_0
    try clear hfz7_1
    try clear hfz7_2
    obtain ⟨x11_1, x176000_1, x176001_1, x176002_1, x180000_1, x180001_1, x180002_1, rfl, HA, HK1, BK175, BK179, HB⟩ := hrel
    cases gk with
    | zero => exact absurd HA.out (by simp [fold_joined.l0])
    | succ k1 =>
      have H := HA.out
      clear HA
      simp only [fold_joined.l0] at H
      by_cases c8 : x11_1 < (l0.length : Int)
      · rw [if_pos c8] at H
        have c8b0 : decide (x11_1 < (l0.length : Int)) = true := decide_eq_true c8
        clear c8
        by_cases c9 : 0 ≤ x11_1
        · rw [if_pos c9] at H
          have c9b0 : decide (0 ≤ x11_1) = true := decide_eq_true c9
          clear c9
          by_cases c10 : x11_1 < (l0.length : Int)
          · rw [if_pos c10] at H
            have c10b0 : decide (x11_1 < (l0.length : Int)) = true := decide_eq_true c10
            clear c10
            replace H := Option.bind_eq_some_iff.mp H
            obtain ⟨⟨t182, t183, t184, t185⟩, A110, H⟩ := H
            replace H : (if t183 = 0 then ((text_Join.f k1 x180002_1 t182).bind fun bt187 => (if bt187.1 = 4 then (some (bt187.1, bt187.2.1, bt187.2.2)) else (fold_joined.l0 k1 l0 (l0.length : Int) (wrap64 (x11_1 + 1)) bt187.1 bt187.2.1 bt187.2.2))) else (some (t183, t184, t185))) = some (r1, r2, r3) := H
            have A11 := Aside0.mk A110
            clear A110
            by_cases c12 : t183 = 0
            · rw [if_pos c12] at H
              have c12b0 : (t183 == 0) = true := beq_iff_eq.mpr c12
              have c12b1 : (t183 != 0) = false := bne_eq_false_iff_eq.mpr c12
              clear c12
              replace H := Option.bind_eq_some_iff.mp H
              obtain ⟨⟨t187, t188, t189⟩, A130, H⟩ := H
              replace H : (if t187 = 4 then (some (t187, t188, t189)) else (fold_joined.l0 k1 l0 (l0.length : Int) (wrap64 (x11_1 + 1)) t187 t188 t189)) = some (r1, r2, r3) := H
              have A13 := Aside0.mk A130
              clear A130
              by_cases c14 : t187 = 4
              · rw [if_pos c14] at H
                have c14b0 : (t187 == 4) = true := beq_iff_eq.mpr c14
                have c14b1 : (t187 != 4) = false := bne_eq_false_iff_eq.mpr c14
                clear c14
                simp only [Option.some.injEq, Prod.mk.injEq] at H
                obtain ⟨rfl, rfl, rfl⟩ := H
                have p180 : 0 ≤ (x11_1 : Int) := of_decide_eq_true (by first | (with_reducible assumption) | assumption)
                have q180 : x11_1 < (l0.length : Int) := of_decide_eq_true (by first | (with_reducible assumption) | assumption)
                obtain ⟨ad180, e180, hx180_0, hx180_1, hx180_2⟩ := at_T23 HR0.out x11_1 p180 q180
                cases e180
                replace hx180_0 := (HB.out.cell (World.block_lt_of_cell? w _ hx180_0)).trans hx180_0
                replace hx180_1 := (HB.out.cell (World.block_lt_of_cell? w _ hx180_1)).trans hx180_1
                replace hx180_2 := (HB.out.cell (World.block_lt_of_cell? w _ hx180_2)).trans hx180_2
                replace p180 := eq_true p180
                replace q180 := eq_true q180
                go_wp2_with (first | ((with_reducible refine gate_dst (N := 5) rfl ?_); refine box_event ?hg (N := 5) ?hd (cs := #[.int .i64 0, .int .i64 0, .string (⟨#[]⟩ : ByteArray)]) (t := 23) ?hr ?_; (case hd => rfl); (case hg => rfl); (case hr => first | (go_simp; done) | (go_simp; rfl)); intro gb181 hg w15 hbox hb; have n0_ := Aside0.mk (blk_below (g := gb175) (o := .cells #[.int .i64 x176000_1, .int .i64 x176001_1, .string x176002_1] 23 (0, 0)) (zB BK175.out) hb); have n1_ := Aside0.mk (blk_below (g := gb179) (o := .cells #[.int .i64 x180000_1, .int .i64 x180001_1, .string x180002_1] 23 (0, 0)) (zB BK179.out) hb); have n2_ := Aside0.mk (below_step (by repeat first | with_reducible exact HB.out | apply zS | refine below_set ?_ GE175.out | refine below_set ?_ GE179.out | exact HB.out) hb); have n3_ := Aside0.mk (hbox); have n4_ := Aside0.mk ((by rw [hg]; exact (below_size (by repeat first | with_reducible exact HB.out | apply zS | refine below_set ?_ GE175.out | refine below_set ?_ GE179.out | exact HB.out)) : w.heap.size ≤ gb181)); have n5_ := n4_; have n6_ := Aside0.mk ((by rw [hg]; exact Nat.ne_of_lt (blk_lt (g := gb175) (o := .cells #[.int .i64 x176000_1, .int .i64 x176001_1, .string x176002_1] 23 (0, 0)) (zB BK175.out)) : gb175 ≠ gb181)); have n7_ := Aside0.mk ((by rw [hg]; exact Nat.ne_of_gt (blk_lt (g := gb175) (o := .cells #[.int .i64 x176000_1, .int .i64 x176001_1, .string x176002_1] 23 (0, 0)) (zB BK175.out)) : gb181 ≠ gb175)); have n8_ := Aside0.mk ((by rw [hg]; exact Nat.ne_of_lt (blk_lt (g := gb179) (o := .cells #[.int .i64 x180000_1, .int .i64 x180001_1, .string x180002_1] 23 (0, 0)) (zB BK179.out)) : gb179 ≠ gb181)); have n9_ := Aside0.mk ((by rw [hg]; exact Nat.ne_of_gt (blk_lt (g := gb179) (o := .cells #[.int .i64 x180000_1, .int .i64 x180001_1, .string x180002_1] 23 (0, 0)) (zB BK179.out)) : gb181 ≠ gb179)); clear BK175; clear BK179; clear HB; have BK175 := n0_; have BK179 := n1_; have HB := n2_; have BK181 := n3_; have GW181 := n4_; have GE181 := n5_; have NB175_181 := n6_; have NB181_175 := n7_; have NB179_181 := n8_; have NB181_179 := n9_; clear n0_ n1_ n2_ n3_ n4_ n5_ n6_ n7_ n8_ n9_; clear hb hbox hg; have hnb16 := NB181_175.out; have hnc16 := NB175_181.out; have hnb17 := NB181_179.out; have hnc17 := NB179_181.out; obtain ⟨hcz18_0, hcz18_1, hcz18_2, hfz18_0, hfz18_1, hfz18_2⟩ := zC3 BK181.out) | ((with_reducible refine gate_callee (f := 64) rfl ?_); refine goesL_ (some 17) rfl rfl Tryd.func64 (by kernel_rfl) rfl #[.agg #[.int .i64 ((rd_T23 l0 x11_1).f0), .int .i64 ((rd_T23 l0 x11_1).f1), .string ((rd_T23 l0 x11_1).f2)]] rfl (by (try simp only [List.map_toArray, List.map_cons, List.map_nil]); first | done | rfl | (simp only [List.length_drop, List.length_take]; rfl)) ?_; (with_reducible refine (value_Str.calls k1 ((rd_T23 l0 x11_1).f0) ((rd_T23 l0 x11_1).f1) ((rd_T23 l0 x11_1).f2) t182 t183 t184 t185 _ ?side1 A11.out).mono ?_); (case side1 => exact gl_1_1 (by repeat first | with_reducible exact HB.out | apply zS | refine below_set ?_ GE175.out | refine below_set ?_ GE179.out | refine below_set ?_ GE181.out | exact HB.out) hG); rintro e w19 ⟨rfl, hb⟩; refine ⟨_, rfl, ?_⟩; have n0_ := Aside0.mk (blk_below (g := gb175) (o := .cells #[.int .i64 x176000_1, .int .i64 x176001_1, .string x176002_1] 23 (0, 0)) (by refine zB (blk_far ?_ NB175_181.out _); refine zB ?_; refine blk_far ?_ NB175_181.out _; refine zB (blk_far ?_ NB175_181.out _); refine zB ?_; exact BK175.out) hb); have n1_ := Aside0.mk (blk_below (g := gb179) (o := .cells #[.int .i64 x180000_1, .int .i64 x180001_1, .string x180002_1] 23 (0, 0)) (by refine zB (blk_far ?_ NB179_181.out _); refine zB ?_; refine blk_far ?_ NB179_181.out _; refine zB (blk_far ?_ NB179_181.out _); refine zB ?_; exact BK179.out) hb); have n2_ := Aside0.mk (blk_below (g := gb181) (o := .cells #[.int .i64 ((rd_T23 l0 x11_1).f0), .int .i64 ((rd_T23 l0 x11_1).f1), .string ((rd_T23 l0 x11_1).f2)] 23 (0, 0)) (by refine zB ?_; refine blk_put (cs := #[.int .i64 ((rd_T23 l0 x11_1).f0), .int .i64 ((rd_T23 l0 x11_1).f1), .string (⟨#[]⟩ : ByteArray)]) ?_ 2 _ rfl; refine zB ?_; refine blk_put (cs := #[.int .i64 ((rd_T23 l0 x11_1).f0), .int .i64 0, .string (⟨#[]⟩ : ByteArray)]) ?_ 1 _ rfl; refine zB ?_; refine blk_put (cs := #[.int .i64 0, .int .i64 0, .string (⟨#[]⟩ : ByteArray)]) ?_ 0 _ rfl; refine zB ?_; exact BK181.out) hb); have n3_ := Aside0.mk (below_step (by repeat first | with_reducible exact HB.out | apply zS | refine below_set ?_ GE175.out | refine below_set ?_ GE179.out | refine below_set ?_ GE181.out | exact HB.out) hb); clear BK175; clear BK179; clear BK181; clear HB; have BK175 := n0_; have BK179 := n1_; have BK181 := n2_; have HB := n3_; clear n0_ n1_ n2_ n3_; (try clear hb); (try clear hb2); (try clear hk); (try clear hi)) | ((with_reducible refine gate_dst (N := 7) rfl ?_); refine box_event ?hg (N := 7) ?hd (cs := #[.int .i64 0, .int .i64 0, .string (⟨#[]⟩ : ByteArray)]) (t := 23) ?hr ?_; (case hd => rfl); (case hg => rfl); (case hr => first | (go_simp; done) | (go_simp; rfl)); intro gb186 hg w20 hbox hb; have n0_ := Aside0.mk (blk_below (g := gb175) (o := .cells #[.int .i64 x176000_1, .int .i64 x176001_1, .string x176002_1] 23 (0, 0)) (zB BK175.out) hb); have n1_ := Aside0.mk (blk_below (g := gb179) (o := .cells #[.int .i64 x180000_1, .int .i64 x180001_1, .string x180002_1] 23 (0, 0)) (zB BK179.out) hb); have n2_ := Aside0.mk (blk_below (g := gb181) (o := .cells #[.int .i64 ((rd_T23 l0 x11_1).f0), .int .i64 ((rd_T23 l0 x11_1).f1), .string ((rd_T23 l0 x11_1).f2)] 23 (0, 0)) (zB BK181.out) hb); have n3_ := Aside0.mk (below_step (by repeat first | with_reducible exact HB.out | apply zS | refine below_set ?_ GE175.out | refine below_set ?_ GE179.out | refine below_set ?_ GE181.out | exact HB.out) hb); have n4_ := Aside0.mk (hbox); have n5_ := Aside0.mk ((by rw [hg]; exact (below_size (by repeat first | with_reducible exact HB.out | apply zS | refine below_set ?_ GE175.out | refine below_set ?_ GE179.out | refine below_set ?_ GE181.out | exact HB.out)) : w.heap.size ≤ gb186)); have n6_ := n5_; have n7_ := Aside0.mk ((by rw [hg]; exact Nat.ne_of_lt (blk_lt (g := gb175) (o := .cells #[.int .i64 x176000_1, .int .i64 x176001_1, .string x176002_1] 23 (0, 0)) (zB BK175.out)) : gb175 ≠ gb186)); have n8_ := Aside0.mk ((by rw [hg]; exact Nat.ne_of_gt (blk_lt (g := gb175) (o := .cells #[.int .i64 x176000_1, .int .i64 x176001_1, .string x176002_1] 23 (0, 0)) (zB BK175.out)) : gb186 ≠ gb175)); have n9_ := Aside0.mk ((by rw [hg]; exact Nat.ne_of_lt (blk_lt (g := gb179) (o := .cells #[.int .i64 x180000_1, .int .i64 x180001_1, .string x180002_1] 23 (0, 0)) (zB BK179.out)) : gb179 ≠ gb186)); have n10_ := Aside0.mk ((by rw [hg]; exact Nat.ne_of_gt (blk_lt (g := gb179) (o := .cells #[.int .i64 x180000_1, .int .i64 x180001_1, .string x180002_1] 23 (0, 0)) (zB BK179.out)) : gb186 ≠ gb179)); have n11_ := Aside0.mk ((by rw [hg]; exact Nat.ne_of_lt (blk_lt (g := gb181) (o := .cells #[.int .i64 ((rd_T23 l0 x11_1).f0), .int .i64 ((rd_T23 l0 x11_1).f1), .string ((rd_T23 l0 x11_1).f2)] 23 (0, 0)) (zB BK181.out)) : gb181 ≠ gb186)); have n12_ := Aside0.mk ((by rw [hg]; exact Nat.ne_of_gt (blk_lt (g := gb181) (o := .cells #[.int .i64 ((rd_T23 l0 x11_1).f0), .int .i64 ((rd_T23 l0 x11_1).f1), .string ((rd_T23 l0 x11_1).f2)] 23 (0, 0)) (zB BK181.out)) : gb186 ≠ gb181)); clear BK175; clear BK179; clear BK181; clear HB; have BK175 := n0_; have BK179 := n1_; have BK181 := n2_; have HB := n3_; have BK186 := n4_; have GW186 := n5_; have GE186 := n6_; have NB175_186 := n7_; have NB186_175 := n8_; have NB179_186 := n9_; have NB186_179 := n10_; have NB181_186 := n11_; have NB186_181 := n12_; clear n0_ n1_ n2_ n3_ n4_ n5_ n6_ n7_ n8_ n9_ n10_ n11_ n12_; clear hb hbox hg; have hnb21 := NB186_175.out; have hnc21 := NB175_186.out; have hnb22 := NB186_179.out; have hnc22 := NB179_186.out; have hnb23 := NB186_181.out; have hnc23 := NB181_186.out; obtain ⟨hcz24_0, hcz24_1, hcz24_2, hfz24_0, hfz24_1, hfz24_2⟩ := zC3 BK186.out; have hnb25 := NB179_175.out; have hnc25 := NB175_179.out; obtain ⟨hcz26_0, hcz26_1, hcz26_2, hfz26_0, hfz26_1, hfz26_2⟩ := zC3 BK179.out) | ((with_reducible refine gate_callee (f := 65) rfl ?_); refine goesL_ (some 27) rfl rfl Tryd.func65 (by kernel_rfl) rfl #[.string x180002_1, .string t182] rfl (by (try simp only [List.map_toArray, List.map_cons, List.map_nil]); first | done | rfl | (simp only [List.length_drop, List.length_take]; rfl)) ?_; (with_reducible refine (text_Join.calls k1 x180002_1 t182 t187 t188 t189 _ A13.out).mono ?_); rintro e w27 ⟨rfl, hb⟩; refine ⟨_, rfl, ?_⟩; have n0_ := Aside0.mk (blk_below (g := gb175) (o := .cells #[.int .i64 x176000_1, .int .i64 x176001_1, .string x176002_1] 23 (0, 0)) (by refine zB (blk_far ?_ NB175_186.out _); refine zB ?_; refine blk_far ?_ NB175_186.out _; refine zB (blk_far ?_ NB175_186.out _); refine zB ?_; exact BK175.out) hb); have n1_ := Aside0.mk (blk_below (g := gb179) (o := .cells #[.int .i64 x180000_1, .int .i64 x180001_1, .string x180002_1] 23 (0, 0)) (by refine zB (blk_far ?_ NB179_186.out _); refine zB ?_; refine blk_far ?_ NB179_186.out _; refine zB (blk_far ?_ NB179_186.out _); refine zB ?_; exact BK179.out) hb); have n2_ := Aside0.mk (blk_below (g := gb181) (o := .cells #[.int .i64 ((rd_T23 l0 x11_1).f0), .int .i64 ((rd_T23 l0 x11_1).f1), .string ((rd_T23 l0 x11_1).f2)] 23 (0, 0)) (by refine zB (blk_far ?_ NB181_186.out _); refine zB ?_; refine blk_far ?_ NB181_186.out _; refine zB (blk_far ?_ NB181_186.out _); refine zB ?_; exact BK181.out) hb); have n3_ := Aside0.mk (blk_below (g := gb186) (o := .cells #[.int .i64 t183, .int .i64 t184, .string t185] 23 (0, 0)) (by refine zB ?_; refine blk_put (cs := #[.int .i64 t183, .int .i64 t184, .string (⟨#[]⟩ : ByteArray)]) ?_ 2 _ rfl; refine zB ?_; refine blk_put (cs := #[.int .i64 t183, .int .i64 0, .string (⟨#[]⟩ : ByteArray)]) ?_ 1 _ rfl; refine zB ?_; refine blk_put (cs := #[.int .i64 0, .int .i64 0, .string (⟨#[]⟩ : ByteArray)]) ?_ 0 _ rfl; refine zB ?_; exact BK186.out) hb); have n4_ := Aside0.mk (below_step (by repeat first | with_reducible exact HB.out | apply zS | refine below_set ?_ GE175.out | refine below_set ?_ GE179.out | refine below_set ?_ GE181.out | refine below_set ?_ GE186.out | exact HB.out) hb); clear BK175; clear BK179; clear BK181; clear BK186; clear HB; have BK175 := n0_; have BK179 := n1_; have BK181 := n2_; have BK186 := n3_; have HB := n4_; clear n0_ n1_ n2_ n3_ n4_; (try clear hb); (try clear hb2); (try clear hk); (try clear hi); obtain ⟨hcz28_0, hcz28_1, hcz28_2, hfz28_0, hfz28_1, hfz28_2⟩ := zC3 BK179.out; obtain ⟨hcz29_0, hcz29_1, hcz29_2, hfz29_0, hfz29_1, hfz29_2⟩ := zC3 BK175.out))
                refine bodyPost_ret (results_cell_row rfl _ _ gb175 23 #[.int .i64 t187, .int .i64 t188, .string t189] (0, 0) _ rfl (by refine zB ?_; refine blk_put (cs := #[.int .i64 t187, .int .i64 t188, .string x176002_1]) ?_ 2 _ rfl; refine zB ?_; refine blk_put (cs := #[.int .i64 t187, .int .i64 x176001_1, .string x176002_1]) ?_ 1 _ rfl; refine zB ?_; refine blk_put (cs := #[.int .i64 x176000_1, .int .i64 x176001_1, .string x176002_1]) ?_ 0 _ rfl; refine zB (blk_far ?_ NB175_179.out _); refine zB ?_; refine blk_far ?_ NB175_179.out _; refine zB (blk_far ?_ NB175_179.out _); refine zB ?_; exact BK175.out) Tryd.underlying23 rfl (by kernel_rfl)) rfl ?_
                exact ⟨by first | rfl | (simp [errW_none, errW_some] <;> rfl) | (simp [*, errW_none, errW_some] <;> rfl), by repeat first | with_reducible exact HB.out | apply zS | refine below_set ?_ GE175.out | refine below_set ?_ GE179.out | refine below_set ?_ GE181.out | refine below_set ?_ GE186.out | exact HB.out⟩
              · rw [if_neg c14] at H
                have c14b0 : (t187 == 4) = false := beq_eq_false_iff_ne.mpr c14
                have c14b1 : (t187 != 4) = true := bne_iff_ne.mpr c14
                have H' := Aside0.mk H
                clear H
                have p180 : 0 ≤ (x11_1 : Int) := of_decide_eq_true (by first | (with_reducible assumption) | assumption)
                have q180 : x11_1 < (l0.length : Int) := of_decide_eq_true (by first | (with_reducible assumption) | assumption)
                obtain ⟨ad180, e180, hx180_0, hx180_1, hx180_2⟩ := at_T23 HR0.out x11_1 p180 q180
                cases e180
                replace hx180_0 := (HB.out.cell (World.block_lt_of_cell? w _ hx180_0)).trans hx180_0
                replace hx180_1 := (HB.out.cell (World.block_lt_of_cell? w _ hx180_1)).trans hx180_1
                replace hx180_2 := (HB.out.cell (World.block_lt_of_cell? w _ hx180_2)).trans hx180_2
                replace p180 := eq_true p180
                replace q180 := eq_true q180
                go_wp2_with (first | ((with_reducible refine gate_dst (N := 5) rfl ?_); refine box_event ?hg (N := 5) ?hd (cs := #[.int .i64 0, .int .i64 0, .string (⟨#[]⟩ : ByteArray)]) (t := 23) ?hr ?_; (case hd => rfl); (case hg => rfl); (case hr => first | (go_simp; done) | (go_simp; rfl)); intro gb181 hg w30 hbox hb; have n0_ := Aside0.mk (blk_below (g := gb175) (o := .cells #[.int .i64 x176000_1, .int .i64 x176001_1, .string x176002_1] 23 (0, 0)) (zB BK175.out) hb); have n1_ := Aside0.mk (blk_below (g := gb179) (o := .cells #[.int .i64 x180000_1, .int .i64 x180001_1, .string x180002_1] 23 (0, 0)) (zB BK179.out) hb); have n2_ := Aside0.mk (below_step (by repeat first | with_reducible exact HB.out | apply zS | refine below_set ?_ GE175.out | refine below_set ?_ GE179.out | exact HB.out) hb); have n3_ := Aside0.mk (hbox); have n4_ := Aside0.mk ((by rw [hg]; exact (below_size (by repeat first | with_reducible exact HB.out | apply zS | refine below_set ?_ GE175.out | refine below_set ?_ GE179.out | exact HB.out)) : w.heap.size ≤ gb181)); have n5_ := n4_; have n6_ := Aside0.mk ((by rw [hg]; exact Nat.ne_of_lt (blk_lt (g := gb175) (o := .cells #[.int .i64 x176000_1, .int .i64 x176001_1, .string x176002_1] 23 (0, 0)) (zB BK175.out)) : gb175 ≠ gb181)); have n7_ := Aside0.mk ((by rw [hg]; exact Nat.ne_of_gt (blk_lt (g := gb175) (o := .cells #[.int .i64 x176000_1, .int .i64 x176001_1, .string x176002_1] 23 (0, 0)) (zB BK175.out)) : gb181 ≠ gb175)); have n8_ := Aside0.mk ((by rw [hg]; exact Nat.ne_of_lt (blk_lt (g := gb179) (o := .cells #[.int .i64 x180000_1, .int .i64 x180001_1, .string x180002_1] 23 (0, 0)) (zB BK179.out)) : gb179 ≠ gb181)); have n9_ := Aside0.mk ((by rw [hg]; exact Nat.ne_of_gt (blk_lt (g := gb179) (o := .cells #[.int .i64 x180000_1, .int .i64 x180001_1, .string x180002_1] 23 (0, 0)) (zB BK179.out)) : gb181 ≠ gb179)); clear BK175; clear BK179; clear HB; have BK175 := n0_; have BK179 := n1_; have HB := n2_; have BK181 := n3_; have GW181 := n4_; have GE181 := n5_; have NB175_181 := n6_; have NB181_175 := n7_; have NB179_181 := n8_; have NB181_179 := n9_; clear n0_ n1_ n2_ n3_ n4_ n5_ n6_ n7_ n8_ n9_; clear hb hbox hg; have hnb31 := NB181_175.out; have hnc31 := NB175_181.out; have hnb32 := NB181_179.out; have hnc32 := NB179_181.out; obtain ⟨hcz33_0, hcz33_1, hcz33_2, hfz33_0, hfz33_1, hfz33_2⟩ := zC3 BK181.out) | ((with_reducible refine gate_callee (f := 64) rfl ?_); refine goesL_ (some 17) rfl rfl Tryd.func64 (by kernel_rfl) rfl #[.agg #[.int .i64 ((rd_T23 l0 x11_1).f0), .int .i64 ((rd_T23 l0 x11_1).f1), .string ((rd_T23 l0 x11_1).f2)]] rfl (by (try simp only [List.map_toArray, List.map_cons, List.map_nil]); first | done | rfl | (simp only [List.length_drop, List.length_take]; rfl)) ?_; (with_reducible refine (value_Str.calls k1 ((rd_T23 l0 x11_1).f0) ((rd_T23 l0 x11_1).f1) ((rd_T23 l0 x11_1).f2) t182 t183 t184 t185 _ ?side1 A11.out).mono ?_); (case side1 => exact gl_1_1 (by repeat first | with_reducible exact HB.out | apply zS | refine below_set ?_ GE175.out | refine below_set ?_ GE179.out | refine below_set ?_ GE181.out | exact HB.out) hG); rintro e w34 ⟨rfl, hb⟩; refine ⟨_, rfl, ?_⟩; have n0_ := Aside0.mk (blk_below (g := gb175) (o := .cells #[.int .i64 x176000_1, .int .i64 x176001_1, .string x176002_1] 23 (0, 0)) (by refine zB (blk_far ?_ NB175_181.out _); refine zB ?_; refine blk_far ?_ NB175_181.out _; refine zB (blk_far ?_ NB175_181.out _); refine zB ?_; exact BK175.out) hb); have n1_ := Aside0.mk (blk_below (g := gb179) (o := .cells #[.int .i64 x180000_1, .int .i64 x180001_1, .string x180002_1] 23 (0, 0)) (by refine zB (blk_far ?_ NB179_181.out _); refine zB ?_; refine blk_far ?_ NB179_181.out _; refine zB (blk_far ?_ NB179_181.out _); refine zB ?_; exact BK179.out) hb); have n2_ := Aside0.mk (blk_below (g := gb181) (o := .cells #[.int .i64 ((rd_T23 l0 x11_1).f0), .int .i64 ((rd_T23 l0 x11_1).f1), .string ((rd_T23 l0 x11_1).f2)] 23 (0, 0)) (by refine zB ?_; refine blk_put (cs := #[.int .i64 ((rd_T23 l0 x11_1).f0), .int .i64 ((rd_T23 l0 x11_1).f1), .string (⟨#[]⟩ : ByteArray)]) ?_ 2 _ rfl; refine zB ?_; refine blk_put (cs := #[.int .i64 ((rd_T23 l0 x11_1).f0), .int .i64 0, .string (⟨#[]⟩ : ByteArray)]) ?_ 1 _ rfl; refine zB ?_; refine blk_put (cs := #[.int .i64 0, .int .i64 0, .string (⟨#[]⟩ : ByteArray)]) ?_ 0 _ rfl; refine zB ?_; exact BK181.out) hb); have n3_ := Aside0.mk (below_step (by repeat first | with_reducible exact HB.out | apply zS | refine below_set ?_ GE175.out | refine below_set ?_ GE179.out | refine below_set ?_ GE181.out | exact HB.out) hb); clear BK175; clear BK179; clear BK181; clear HB; have BK175 := n0_; have BK179 := n1_; have BK181 := n2_; have HB := n3_; clear n0_ n1_ n2_ n3_; (try clear hb); (try clear hb2); (try clear hk); (try clear hi)) | ((with_reducible refine gate_dst (N := 7) rfl ?_); refine box_event ?hg (N := 7) ?hd (cs := #[.int .i64 0, .int .i64 0, .string (⟨#[]⟩ : ByteArray)]) (t := 23) ?hr ?_; (case hd => rfl); (case hg => rfl); (case hr => first | (go_simp; done) | (go_simp; rfl)); intro gb186 hg w35 hbox hb; have n0_ := Aside0.mk (blk_below (g := gb175) (o := .cells #[.int .i64 x176000_1, .int .i64 x176001_1, .string x176002_1] 23 (0, 0)) (zB BK175.out) hb); have n1_ := Aside0.mk (blk_below (g := gb179) (o := .cells #[.int .i64 x180000_1, .int .i64 x180001_1, .string x180002_1] 23 (0, 0)) (zB BK179.out) hb); have n2_ := Aside0.mk (blk_below (g := gb181) (o := .cells #[.int .i64 ((rd_T23 l0 x11_1).f0), .int .i64 ((rd_T23 l0 x11_1).f1), .string ((rd_T23 l0 x11_1).f2)] 23 (0, 0)) (zB BK181.out) hb); have n3_ := Aside0.mk (below_step (by repeat first | with_reducible exact HB.out | apply zS | refine below_set ?_ GE175.out | refine below_set ?_ GE179.out | refine below_set ?_ GE181.out | exact HB.out) hb); have n4_ := Aside0.mk (hbox); have n5_ := Aside0.mk ((by rw [hg]; exact (below_size (by repeat first | with_reducible exact HB.out | apply zS | refine below_set ?_ GE175.out | refine below_set ?_ GE179.out | refine below_set ?_ GE181.out | exact HB.out)) : w.heap.size ≤ gb186)); have n6_ := n5_; have n7_ := Aside0.mk ((by rw [hg]; exact Nat.ne_of_lt (blk_lt (g := gb175) (o := .cells #[.int .i64 x176000_1, .int .i64 x176001_1, .string x176002_1] 23 (0, 0)) (zB BK175.out)) : gb175 ≠ gb186)); have n8_ := Aside0.mk ((by rw [hg]; exact Nat.ne_of_gt (blk_lt (g := gb175) (o := .cells #[.int .i64 x176000_1, .int .i64 x176001_1, .string x176002_1] 23 (0, 0)) (zB BK175.out)) : gb186 ≠ gb175)); have n9_ := Aside0.mk ((by rw [hg]; exact Nat.ne_of_lt (blk_lt (g := gb179) (o := .cells #[.int .i64 x180000_1, .int .i64 x180001_1, .string x180002_1] 23 (0, 0)) (zB BK179.out)) : gb179 ≠ gb186)); have n10_ := Aside0.mk ((by rw [hg]; exact Nat.ne_of_gt (blk_lt (g := gb179) (o := .cells #[.int .i64 x180000_1, .int .i64 x180001_1, .string x180002_1] 23 (0, 0)) (zB BK179.out)) : gb186 ≠ gb179)); have n11_ := Aside0.mk ((by rw [hg]; exact Nat.ne_of_lt (blk_lt (g := gb181) (o := .cells #[.int .i64 ((rd_T23 l0 x11_1).f0), .int .i64 ((rd_T23 l0 x11_1).f1), .string ((rd_T23 l0 x11_1).f2)] 23 (0, 0)) (zB BK181.out)) : gb181 ≠ gb186)); have n12_ := Aside0.mk ((by rw [hg]; exact Nat.ne_of_gt (blk_lt (g := gb181) (o := .cells #[.int .i64 ((rd_T23 l0 x11_1).f0), .int .i64 ((rd_T23 l0 x11_1).f1), .string ((rd_T23 l0 x11_1).f2)] 23 (0, 0)) (zB BK181.out)) : gb186 ≠ gb181)); clear BK175; clear BK179; clear BK181; clear HB; have BK175 := n0_; have BK179 := n1_; have BK181 := n2_; have HB := n3_; have BK186 := n4_; have GW186 := n5_; have GE186 := n6_; have NB175_186 := n7_; have NB186_175 := n8_; have NB179_186 := n9_; have NB186_179 := n10_; have NB181_186 := n11_; have NB186_181 := n12_; clear n0_ n1_ n2_ n3_ n4_ n5_ n6_ n7_ n8_ n9_ n10_ n11_ n12_; clear hb hbox hg; have hnb36 := NB186_175.out; have hnc36 := NB175_186.out; have hnb37 := NB186_179.out; have hnc37 := NB179_186.out; have hnb38 := NB186_181.out; have hnc38 := NB181_186.out; obtain ⟨hcz39_0, hcz39_1, hcz39_2, hfz39_0, hfz39_1, hfz39_2⟩ := zC3 BK186.out; have hnb40 := NB179_175.out; have hnc40 := NB175_179.out; obtain ⟨hcz41_0, hcz41_1, hcz41_2, hfz41_0, hfz41_1, hfz41_2⟩ := zC3 BK179.out) | ((with_reducible refine gate_callee (f := 65) rfl ?_); refine goesL_ (some 27) rfl rfl Tryd.func65 (by kernel_rfl) rfl #[.string x180002_1, .string t182] rfl (by (try simp only [List.map_toArray, List.map_cons, List.map_nil]); first | done | rfl | (simp only [List.length_drop, List.length_take]; rfl)) ?_; (with_reducible refine (text_Join.calls k1 x180002_1 t182 t187 t188 t189 _ A13.out).mono ?_); rintro e w42 ⟨rfl, hb⟩; refine ⟨_, rfl, ?_⟩; have n0_ := Aside0.mk (blk_below (g := gb175) (o := .cells #[.int .i64 x176000_1, .int .i64 x176001_1, .string x176002_1] 23 (0, 0)) (by refine zB (blk_far ?_ NB175_186.out _); refine zB ?_; refine blk_far ?_ NB175_186.out _; refine zB (blk_far ?_ NB175_186.out _); refine zB ?_; exact BK175.out) hb); have n1_ := Aside0.mk (blk_below (g := gb179) (o := .cells #[.int .i64 x180000_1, .int .i64 x180001_1, .string x180002_1] 23 (0, 0)) (by refine zB (blk_far ?_ NB179_186.out _); refine zB ?_; refine blk_far ?_ NB179_186.out _; refine zB (blk_far ?_ NB179_186.out _); refine zB ?_; exact BK179.out) hb); have n2_ := Aside0.mk (blk_below (g := gb181) (o := .cells #[.int .i64 ((rd_T23 l0 x11_1).f0), .int .i64 ((rd_T23 l0 x11_1).f1), .string ((rd_T23 l0 x11_1).f2)] 23 (0, 0)) (by refine zB (blk_far ?_ NB181_186.out _); refine zB ?_; refine blk_far ?_ NB181_186.out _; refine zB (blk_far ?_ NB181_186.out _); refine zB ?_; exact BK181.out) hb); have n3_ := Aside0.mk (blk_below (g := gb186) (o := .cells #[.int .i64 t183, .int .i64 t184, .string t185] 23 (0, 0)) (by refine zB ?_; refine blk_put (cs := #[.int .i64 t183, .int .i64 t184, .string (⟨#[]⟩ : ByteArray)]) ?_ 2 _ rfl; refine zB ?_; refine blk_put (cs := #[.int .i64 t183, .int .i64 0, .string (⟨#[]⟩ : ByteArray)]) ?_ 1 _ rfl; refine zB ?_; refine blk_put (cs := #[.int .i64 0, .int .i64 0, .string (⟨#[]⟩ : ByteArray)]) ?_ 0 _ rfl; refine zB ?_; exact BK186.out) hb); have n4_ := Aside0.mk (below_step (by repeat first | with_reducible exact HB.out | apply zS | refine below_set ?_ GE175.out | refine below_set ?_ GE179.out | refine below_set ?_ GE181.out | refine below_set ?_ GE186.out | exact HB.out) hb); clear BK175; clear BK179; clear BK181; clear BK186; clear HB; have BK175 := n0_; have BK179 := n1_; have BK181 := n2_; have BK186 := n3_; have HB := n4_; clear n0_ n1_ n2_ n3_ n4_; (try clear hb); (try clear hb2); (try clear hk); (try clear hi); obtain ⟨hcz43_0, hcz43_1, hcz43_2, hfz43_0, hfz43_1, hfz43_2⟩ := zC3 BK179.out))
                go_roundg k1
                case measure => have := HK1.out; omega
                case rel => exact ⟨(wrap64 (x11_1 + 1)), (x176000_1), (x176001_1), (x176002_1), (t187), (t188), (t189), (by first | rfl | (simp; done) | (simp [*]; done)), H', ⟨by have := HK1.out; omega⟩, ⟨by refine zB (blk_far ?_ NB175_179.out _); refine zB ?_; refine blk_far ?_ NB175_179.out _; refine zB (blk_far ?_ NB175_179.out _); refine zB ?_; exact BK175.out⟩, ⟨by refine zB ?_; refine blk_put (cs := #[.int .i64 t187, .int .i64 t188, .string x180002_1]) ?_ 2 _ rfl; refine zB ?_; refine blk_put (cs := #[.int .i64 t187, .int .i64 x180001_1, .string x180002_1]) ?_ 1 _ rfl; refine zB ?_; refine blk_put (cs := #[.int .i64 x180000_1, .int .i64 x180001_1, .string x180002_1]) ?_ 0 _ rfl; refine zB ?_; exact BK179.out⟩, ⟨by repeat first | with_reducible exact HB.out | apply zS | refine below_set ?_ GE175.out | refine below_set ?_ GE179.out | refine below_set ?_ GE181.out | refine below_set ?_ GE186.out | exact HB.out⟩⟩
            · rw [if_neg c12] at H
              have c12b0 : (t183 == 0) = false := beq_eq_false_iff_ne.mpr c12
              have c12b1 : (t183 != 0) = true := bne_iff_ne.mpr c12
              simp only [Option.some.injEq, Prod.mk.injEq] at H
              obtain ⟨rfl, rfl, rfl⟩ := H
              have p180 : 0 ≤ (x11_1 : Int) := of_decide_eq_true (by first | (with_reducible assumption) | assumption)
              have q180 : x11_1 < (l0.length : Int) := of_decide_eq_true (by first | (with_reducible assumption) | assumption)
              obtain ⟨ad180, e180, hx180_0, hx180_1, hx180_2⟩ := at_T23 HR0.out x11_1 p180 q180
              cases e180
              replace hx180_0 := (HB.out.cell (World.block_lt_of_cell? w _ hx180_0)).trans hx180_0
              replace hx180_1 := (HB.out.cell (World.block_lt_of_cell? w _ hx180_1)).trans hx180_1
              replace hx180_2 := (HB.out.cell (World.block_lt_of_cell? w _ hx180_2)).trans hx180_2
              replace p180 := eq_true p180
              replace q180 := eq_true q180
              go_wp2_with (first | ((with_reducible refine gate_dst (N := 5) rfl ?_); refine box_event ?hg (N := 5) ?hd (cs := #[.int .i64 0, .int .i64 0, .string (⟨#[]⟩ : ByteArray)]) (t := 23) ?hr ?_; (case hd => rfl); (case hg => rfl); (case hr => first | (go_simp; done) | (go_simp; rfl)); intro gb181 hg w44 hbox hb; have n0_ := Aside0.mk (blk_below (g := gb175) (o := .cells #[.int .i64 x176000_1, .int .i64 x176001_1, .string x176002_1] 23 (0, 0)) (zB BK175.out) hb); have n1_ := Aside0.mk (blk_below (g := gb179) (o := .cells #[.int .i64 x180000_1, .int .i64 x180001_1, .string x180002_1] 23 (0, 0)) (zB BK179.out) hb); have n2_ := Aside0.mk (below_step (by repeat first | with_reducible exact HB.out | apply zS | refine below_set ?_ GE175.out | refine below_set ?_ GE179.out | exact HB.out) hb); have n3_ := Aside0.mk (hbox); have n4_ := Aside0.mk ((by rw [hg]; exact (below_size (by repeat first | with_reducible exact HB.out | apply zS | refine below_set ?_ GE175.out | refine below_set ?_ GE179.out | exact HB.out)) : w.heap.size ≤ gb181)); have n5_ := n4_; have n6_ := Aside0.mk ((by rw [hg]; exact Nat.ne_of_lt (blk_lt (g := gb175) (o := .cells #[.int .i64 x176000_1, .int .i64 x176001_1, .string x176002_1] 23 (0, 0)) (zB BK175.out)) : gb175 ≠ gb181)); have n7_ := Aside0.mk ((by rw [hg]; exact Nat.ne_of_gt (blk_lt (g := gb175) (o := .cells #[.int .i64 x176000_1, .int .i64 x176001_1, .string x176002_1] 23 (0, 0)) (zB BK175.out)) : gb181 ≠ gb175)); have n8_ := Aside0.mk ((by rw [hg]; exact Nat.ne_of_lt (blk_lt (g := gb179) (o := .cells #[.int .i64 x180000_1, .int .i64 x180001_1, .string x180002_1] 23 (0, 0)) (zB BK179.out)) : gb179 ≠ gb181)); have n9_ := Aside0.mk ((by rw [hg]; exact Nat.ne_of_gt (blk_lt (g := gb179) (o := .cells #[.int .i64 x180000_1, .int .i64 x180001_1, .string x180002_1] 23 (0, 0)) (zB BK179.out)) : gb181 ≠ gb179)); clear BK175; clear BK179; clear HB; have BK175 := n0_; have BK179 := n1_; have HB := n2_; have BK181 := n3_; have GW181 := n4_; have GE181 := n5_; have NB175_181 := n6_; have NB181_175 := n7_; have NB179_181 := n8_; have NB181_179 := n9_; clear n0_ n1_ n2_ n3_ n4_ n5_ n6_ n7_ n8_ n9_; clear hb hbox hg; have hnb45 := NB181_175.out; have hnc45 := NB175_181.out; have hnb46 := NB181_179.out; have hnc46 := NB179_181.out; obtain ⟨hcz47_0, hcz47_1, hcz47_2, hfz47_0, hfz47_1, hfz47_2⟩ := zC3 BK181.out) | ((with_reducible refine gate_callee (f := 64) rfl ?_); refine goesL_ (some 17) rfl rfl Tryd.func64 (by kernel_rfl) rfl #[.agg #[.int .i64 ((rd_T23 l0 x11_1).f0), .int .i64 ((rd_T23 l0 x11_1).f1), .string ((rd_T23 l0 x11_1).f2)]] rfl (by (try simp only [List.map_toArray, List.map_cons, List.map_nil]); first | done | rfl | (simp only [List.length_drop, List.length_take]; rfl)) ?_; (with_reducible refine (value_Str.calls k1 ((rd_T23 l0 x11_1).f0) ((rd_T23 l0 x11_1).f1) ((rd_T23 l0 x11_1).f2) t182 t183 t184 t185 _ ?side1 A11.out).mono ?_); (case side1 => exact gl_1_1 (by repeat first | with_reducible exact HB.out | apply zS | refine below_set ?_ GE175.out | refine below_set ?_ GE179.out | refine below_set ?_ GE181.out | exact HB.out) hG); rintro e w48 ⟨rfl, hb⟩; refine ⟨_, rfl, ?_⟩; have n0_ := Aside0.mk (blk_below (g := gb175) (o := .cells #[.int .i64 x176000_1, .int .i64 x176001_1, .string x176002_1] 23 (0, 0)) (by refine zB (blk_far ?_ NB175_181.out _); refine zB ?_; refine blk_far ?_ NB175_181.out _; refine zB (blk_far ?_ NB175_181.out _); refine zB ?_; exact BK175.out) hb); have n1_ := Aside0.mk (blk_below (g := gb179) (o := .cells #[.int .i64 x180000_1, .int .i64 x180001_1, .string x180002_1] 23 (0, 0)) (by refine zB (blk_far ?_ NB179_181.out _); refine zB ?_; refine blk_far ?_ NB179_181.out _; refine zB (blk_far ?_ NB179_181.out _); refine zB ?_; exact BK179.out) hb); have n2_ := Aside0.mk (blk_below (g := gb181) (o := .cells #[.int .i64 ((rd_T23 l0 x11_1).f0), .int .i64 ((rd_T23 l0 x11_1).f1), .string ((rd_T23 l0 x11_1).f2)] 23 (0, 0)) (by refine zB ?_; refine blk_put (cs := #[.int .i64 ((rd_T23 l0 x11_1).f0), .int .i64 ((rd_T23 l0 x11_1).f1), .string (⟨#[]⟩ : ByteArray)]) ?_ 2 _ rfl; refine zB ?_; refine blk_put (cs := #[.int .i64 ((rd_T23 l0 x11_1).f0), .int .i64 0, .string (⟨#[]⟩ : ByteArray)]) ?_ 1 _ rfl; refine zB ?_; refine blk_put (cs := #[.int .i64 0, .int .i64 0, .string (⟨#[]⟩ : ByteArray)]) ?_ 0 _ rfl; refine zB ?_; exact BK181.out) hb); have n3_ := Aside0.mk (below_step (by repeat first | with_reducible exact HB.out | apply zS | refine below_set ?_ GE175.out | refine below_set ?_ GE179.out | refine below_set ?_ GE181.out | exact HB.out) hb); clear BK175; clear BK179; clear BK181; clear HB; have BK175 := n0_; have BK179 := n1_; have BK181 := n2_; have HB := n3_; clear n0_ n1_ n2_ n3_; (try clear hb); (try clear hb2); (try clear hk); (try clear hi)) | ((with_reducible refine gate_dst (N := 7) rfl ?_); refine box_event ?hg (N := 7) ?hd (cs := #[.int .i64 0, .int .i64 0, .string (⟨#[]⟩ : ByteArray)]) (t := 23) ?hr ?_; (case hd => rfl); (case hg => rfl); (case hr => first | (go_simp; done) | (go_simp; rfl)); intro gb186 hg w49 hbox hb; have n0_ := Aside0.mk (blk_below (g := gb175) (o := .cells #[.int .i64 x176000_1, .int .i64 x176001_1, .string x176002_1] 23 (0, 0)) (zB BK175.out) hb); have n1_ := Aside0.mk (blk_below (g := gb179) (o := .cells #[.int .i64 x180000_1, .int .i64 x180001_1, .string x180002_1] 23 (0, 0)) (zB BK179.out) hb); have n2_ := Aside0.mk (blk_below (g := gb181) (o := .cells #[.int .i64 ((rd_T23 l0 x11_1).f0), .int .i64 ((rd_T23 l0 x11_1).f1), .string ((rd_T23 l0 x11_1).f2)] 23 (0, 0)) (zB BK181.out) hb); have n3_ := Aside0.mk (below_step (by repeat first | with_reducible exact HB.out | apply zS | refine below_set ?_ GE175.out | refine below_set ?_ GE179.out | refine below_set ?_ GE181.out | exact HB.out) hb); have n4_ := Aside0.mk (hbox); have n5_ := Aside0.mk ((by rw [hg]; exact (below_size (by repeat first | with_reducible exact HB.out | apply zS | refine below_set ?_ GE175.out | refine below_set ?_ GE179.out | refine below_set ?_ GE181.out | exact HB.out)) : w.heap.size ≤ gb186)); have n6_ := n5_; have n7_ := Aside0.mk ((by rw [hg]; exact Nat.ne_of_lt (blk_lt (g := gb175) (o := .cells #[.int .i64 x176000_1, .int .i64 x176001_1, .string x176002_1] 23 (0, 0)) (zB BK175.out)) : gb175 ≠ gb186)); have n8_ := Aside0.mk ((by rw [hg]; exact Nat.ne_of_gt (blk_lt (g := gb175) (o := .cells #[.int .i64 x176000_1, .int .i64 x176001_1, .string x176002_1] 23 (0, 0)) (zB BK175.out)) : gb186 ≠ gb175)); have n9_ := Aside0.mk ((by rw [hg]; exact Nat.ne_of_lt (blk_lt (g := gb179) (o := .cells #[.int .i64 x180000_1, .int .i64 x180001_1, .string x180002_1] 23 (0, 0)) (zB BK179.out)) : gb179 ≠ gb186)); have n10_ := Aside0.mk ((by rw [hg]; exact Nat.ne_of_gt (blk_lt (g := gb179) (o := .cells #[.int .i64 x180000_1, .int .i64 x180001_1, .string x180002_1] 23 (0, 0)) (zB BK179.out)) : gb186 ≠ gb179)); have n11_ := Aside0.mk ((by rw [hg]; exact Nat.ne_of_lt (blk_lt (g := gb181) (o := .cells #[.int .i64 ((rd_T23 l0 x11_1).f0), .int .i64 ((rd_T23 l0 x11_1).f1), .string ((rd_T23 l0 x11_1).f2)] 23 (0, 0)) (zB BK181.out)) : gb181 ≠ gb186)); have n12_ := Aside0.mk ((by rw [hg]; exact Nat.ne_of_gt (blk_lt (g := gb181) (o := .cells #[.int .i64 ((rd_T23 l0 x11_1).f0), .int .i64 ((rd_T23 l0 x11_1).f1), .string ((rd_T23 l0 x11_1).f2)] 23 (0, 0)) (zB BK181.out)) : gb186 ≠ gb181)); clear BK175; clear BK179; clear BK181; clear HB; have BK175 := n0_; have BK179 := n1_; have BK181 := n2_; have HB := n3_; have BK186 := n4_; have GW186 := n5_; have GE186 := n6_; have NB175_186 := n7_; have NB186_175 := n8_; have NB179_186 := n9_; have NB186_179 := n10_; have NB181_186 := n11_; have NB186_181 := n12_; clear n0_ n1_ n2_ n3_ n4_ n5_ n6_ n7_ n8_ n9_ n10_ n11_ n12_; clear hb hbox hg; have hnb50 := NB186_175.out; have hnc50 := NB175_186.out; have hnb51 := NB186_179.out; have hnc51 := NB179_186.out; have hnb52 := NB186_181.out; have hnc52 := NB181_186.out; obtain ⟨hcz53_0, hcz53_1, hcz53_2, hfz53_0, hfz53_1, hfz53_2⟩ := zC3 BK186.out; have hnb54 := NB175_179.out; have hnc54 := NB179_175.out; obtain ⟨hcz55_0, hcz55_1, hcz55_2, hfz55_0, hfz55_1, hfz55_2⟩ := zC3 BK175.out))
              refine bodyPost_ret (results_cell_row rfl _ _ gb175 23 #[.int .i64 t183, .int .i64 t184, .string t185] (0, 0) _ rfl (by refine zB ?_; refine blk_put (cs := #[.int .i64 t183, .int .i64 t184, .string x176002_1]) ?_ 2 _ rfl; refine zB ?_; refine blk_put (cs := #[.int .i64 t183, .int .i64 x176001_1, .string x176002_1]) ?_ 1 _ rfl; refine zB ?_; refine blk_put (cs := #[.int .i64 x176000_1, .int .i64 x176001_1, .string x176002_1]) ?_ 0 _ rfl; refine zB (blk_far ?_ NB175_186.out _); refine zB ?_; refine blk_far ?_ NB175_186.out _; refine zB (blk_far ?_ NB175_186.out _); refine zB ?_; exact BK175.out) Tryd.underlying23 rfl (by kernel_rfl)) rfl ?_
              exact ⟨by first | rfl | (simp [errW_none, errW_some] <;> rfl) | (simp [*, errW_none, errW_some] <;> rfl), by repeat first | with_reducible exact HB.out | apply zS | refine below_set ?_ GE175.out | refine below_set ?_ GE179.out | refine below_set ?_ GE181.out | refine below_set ?_ GE186.out | exact HB.out⟩
          · rw [if_neg c10] at H
            exact absurd H (by simp)
        · rw [if_neg c9] at H
          exact absurd H (by simp)
      · rw [if_neg c8] at H
        have c8b0 : decide (x11_1 < (l0.length : Int)) = false := decide_eq_false c8
        clear c8
        simp only [Option.some.injEq, Prod.mk.injEq] at H
        obtain ⟨rfl, rfl, rfl⟩ := H
        have hnb56 := NB179_175.out
        have hnc56 := NB175_179.out
        have hcz57_0 : wr.cell? ⟨gb179, 0, none⟩ = some (.int .i64 x180000_1) := (blk_cell BK179.out 0).trans rfl
        have hcz57_1 : wr.cell? ⟨gb179, 1, none⟩ = some (.int .i64 x180001_1) := (blk_cell BK179.out 1).trans rfl
        have hcz57_2 : wr.cell? ⟨gb179, 2, none⟩ = some (.string x180002_1) := (blk_cell BK179.out 2).trans rfl
        have hfz57_0 := blk_frozen BK179.out 0
        have hfz57_1 := blk_frozen BK179.out 1
        have hfz57_2 := blk_frozen BK179.out 2
        have hcz58_0 : wr.cell? ⟨gb175, 0, none⟩ = some (.int .i64 x176000_1) := (blk_cell BK175.out 0).trans rfl
        have hcz58_1 : wr.cell? ⟨gb175, 1, none⟩ = some (.int .i64 x176001_1) := (blk_cell BK175.out 1).trans rfl
        have hcz58_2 : wr.cell? ⟨gb175, 2, none⟩ = some (.string x176002_1) := (blk_cell BK175.out 2).trans rfl
        have hfz58_0 := blk_frozen BK175.out 0
        have hfz58_1 := blk_frozen BK175.out 1
        have hfz58_2 := blk_frozen BK175.out 2
        go_wp2
        refine bodyPost_ret (results_cell_row rfl _ _ gb175 23 #[.int .i64 x180000_1, .int .i64 x180001_1, .string x180002_1] (0, 0) _ rfl (by refine zB ?_; refine blk_put (cs := #[.int .i64 x180000_1, .int .i64 x180001_1, .string x176002_1]) ?_ 2 _ rfl; refine zB ?_; refine blk_put (cs := #[.int .i64 x180000_1, .int .i64 x176001_1, .string x176002_1]) ?_ 1 _ rfl; refine zB ?_; refine blk_put (cs := #[.int .i64 x176000_1, .int .i64 x176001_1, .string x176002_1]) ?_ 0 _ rfl; refine zB ?_; exact BK175.out) Tryd.underlying23 rfl (by kernel_rfl)) rfl ?_
        exact ⟨by first | rfl | (simp [errW_none, errW_some] <;> rfl) | (simp [*, errW_none, errW_some] <;> rfl), by repeat first | with_reducible exact HB.out | apply zS | refine below_set ?_ GE175.out | refine below_set ?_ GE179.out | exact HB.out⟩
end Go.Proofs.YtmdmpafdpgdpoaaDoor.P

namespace Go.Proofs.YtmdmpafdpgdpoaaDoor.P
open Go.RowKit Go.Proofs.YtmdmpafdpgdpoaaDoorW.PrintWords Go.Proofs.YtmdmpafdpgdpoaaDoorW.PrintLast Go.Proofs.YtmdmpafdpgdpoaaDoorW.PrintMore
set_option linter.unusedVariables false
set_option linter.unusedSimpArgs false
def fullV (l : List S23) : List S23 := l.filter fun x => !(x.f0 == 0)
def intsV (l : List S23) : List S23 := l.filter fun x => !(x.f0 != 2)
abbrev R3 : Type := Int × Int × ByteArray
def yes3 (o : Option R3) : Option (Int × Int × ByteArray × Bool) := o.bind fun t => some (t.1, t.2.1, t.2.2, true)
def ofF (name : List UInt8) (m : List S23) : Option (Int × Int × ByteArray × Bool) :=
  if name = [83, 85, 77] then yes3 ((fold_sum.f m).bind fun t => fold_told.f t.1 t.2.1 t.2.2.1 t.2.2.2) else
  if name = [80, 82, 79, 68, 85, 67, 84] then yes3 ((numbersF (fun a b _ => num_Mul.f 100 a b) m 1 0).bind fun t => fold_told.f t.1 t.2.1 t.2.2.1 t.2.2.2) else
  if name = [77, 73, 78] then yes3 (bestF (fun a b => decide (a < b)) m) else
  if name = [77, 65, 88] then yes3 (bestF (fun a b => decide (b < a)) m) else
  if name = [65, 86, 71] then yes3 (fold_mean.f m) else
  if name = [65, 78, 68] then yes3 (fold_flags.f (m.length + 10) m true) else
  if name = [79, 82] then yes3 (fold_flags.f (m.length + 10) m false) else
  if name = [74, 79, 73, 78] then yes3 (fold_joined.f (m.length + 10) m) else
  if name = [67, 79, 85, 78, 84] then yes3 (fold_whole.f ((intsV m).length : Int)) else
  if name = [67, 79, 85, 78, 84, 65] then yes3 (fold_whole.f (m.length : Int)) else
  some (0, 0, ⟨#[]⟩, false)
def fold_Of.f (a0 : ByteArray) (l : List S23) : Option (Int × Int × ByteArray × Bool) := if l.length < 4398046511104 then ofF a0.toList (fullV l) else none
theorem pred_full : PredA 35 (fun x => x.f0 == 0) := by
  intro W x
  go_enter Tryd.func35, Tryd.ntmps35
  go_wp2
  go_ret
  exact ⟨rfl, below_alloc (Below.refl _ W) _⟩
theorem pred_ints : PredA 47 (fun x => x.f0 != 2) := by
  intro W x
  go_enter Tryd.func47, Tryd.ntmps47
  go_wp2
  go_ret
  exact ⟨rfl, below_alloc (Below.refl _ W) _⟩
theorem eg_full : ∀ args w, (callFunc 35 args).run Tryd.prog w = .ok (.enter 35 args) w := enters_of Tryd.func35 (by kernel_rfl) rfl
theorem eg_ints : ∀ args w, (callFunc 47 args).run Tryd.prog w = .ok (.enter 47 args) w := enters_of Tryd.func47 (by kernel_rfl) rfl
theorem eg_less : ∀ args w, (callFunc 42 args).run Tryd.prog w = .ok (.enter 42 args) w := enters_of Tryd.func42 (by kernel_rfl) rfl
theorem eg_more : ∀ args w, (callFunc 43 args).run Tryd.prog w = .ok (.enter 43 args) w := enters_of Tryd.func43 (by kernel_rfl) rfl
theorem eg_mul : ∀ args w, (callFunc 39 args).run Tryd.prog w = .ok (.enter 39 args) w := enters_of Tryd.func39 (by kernel_rfl) rfl
theorem step_mul (w : World) : StepB 39 #[] (fun a b _ => num_Mul.f 100 a b) w := by
  intro W n b i r1 r2 _ h
  have HH := Lib.hid h
  clear h
  show Calls Tryd.prog 39 #[.int .i64 n, .int .i64 b, .int .i64 i] W _
  go_enter Tryd.func39, Tryd.ntmps39
  go_wp2_with (go_at_call 40; (with_reducible refine (num_Mul.calls _ _ _ _ _ _ HH.out).mono ?_); rintro e w2 ⟨rfl, hb2⟩)
  go_ret2
  exact ⟨rfl, hb2.below⟩
structure Begun (w : World) (l : List S23) (A : Option Addr) (c : Nat) (w2 : World) : Prop where
  own : w2.ownsRow (w.heap.size + 1) 23 3 (.slice A (fullV l).length c) (fullV l).length (flatV (fullV l))
  reads : Kd.C k23 w2 A (fullV l).length (fullV l)
  cap : (fullV l).length ≤ c
  below : Below w.heap.size w w2
  blk : w2.heap[w.heap.size]? = some (.cells #[.int .i64 0, .int .i64 0, .string ⟨#[]⟩] 23 (0, 0))
theorem begun {w w1 w2 : World} {l : List S23} {v1 v2 : Value} (ho1 : w1.ownsRow (w.alloc (.cells #[.int .i64 0, .int .i64 0, .string ⟨#[]⟩] 23)).heap.size 23 3 v1 l.length (flatV l)) (hb1 : Below (w.alloc (.cells #[.int .i64 0, .int .i64 0, .string ⟨#[]⟩] 23)).heap.size (w.alloc (.cells #[.int .i64 0, .int .i64 0, .string ⟨#[]⟩] 23)) w1)
    (ho2 : w2.ownsRow (w.alloc (.cells #[.int .i64 0, .int .i64 0, .string ⟨#[]⟩] 23)).heap.size 23 3 v2 (fullV l).length (flatV (fullV l))) (hg : w1.grownBy w2 v1.ownBlock) : ∃ A c, v2 = .slice A (fullV l).length c ∧ Begun w l A c w2 := by
  have hs : (w.alloc (.cells #[.int .i64 0, .int .i64 0, .string ⟨#[]⟩] 23)).heap.size = w.heap.size + 1 := by simp
  obtain ⟨A, c, rfl, hle, hC⟩ := C_of_own ho2
  rw [hs] at ho1 ho2
  have hz := hb1.size
  rw [hs] at hz
  have hk := blk_below (blk_new w _) hb1
  refine ⟨A, c, rfl, ho2, hC, hle, ?_, ?_⟩
  · exact pw_below_grown (below_step (below_alloc (Below.refl _ w) _) hb1) _ (by omega) hg (fun k hk => by have := own_base ho1 k hk; omega)
  · exact (hg.block _ (blk_lt hk) (fun e => by have := own_base ho1 _ e.symm; omega)).trans hk
theorem full_le (l : List S23) : (fullV l).length ≤ l.length := List.length_filter_le _ _
theorem eqb_true {a b : List UInt8} (h : a = b) : (a == b) = true := beq_iff_eq.2 h
theorem eqb_false {a b : List UInt8} (h : ¬ a = b) : (a == b) = false := beq_eq_false_iff_ne.2 h
theorem count_blk {w w2 w3 : World} {l : List S23} {A : Option Addr} {c : Nat} (h : Begun w l A c w2) (hg : w2.grownBy w3 (Value.slice A (fullV l).length c).ownBlock) : w3.heap[w.heap.size]? = some (.cells #[.int .i64 0, .int .i64 0, .string ⟨#[]⟩] 23 (0, 0)) :=
  (hg.block _ (blk_lt h.blk) (fun e => by have := own_base h.own _ e.symm; omega)).trans h.blk
theorem count_below {w w2 w3 : World} {l : List S23} {A : Option Addr} {c : Nat} (h : Begun w l A c w2) (hg : w2.grownBy w3 (Value.slice A (fullV l).length c).ownBlock) : Below w.heap.size w w3 :=
  pw_below_grown h.below _ h.below.size hg (fun k hk => by have := own_base h.own k hk; omega)
set_option maxHeartbeats 2000000 in
set_option maxRecDepth 100000 in
theorem of_SUM (a0 : ByteArray) (A1 : Option Addr) (c1 : Nat) (l : List S23) (r1 r2 : Int) (r3 : ByteArray) (r4 : Bool) (w : World) (hr1 : Kd.C k23 w A1 l.length l) (hc1 : l.length ≤ c1) (hlt : l.length < 4398046511104) (hG : G2 w) (h0 : a0.toList = [83, 85, 77]) (h : yes3 ((fold_sum.f (fullV l)).bind fun t => fold_told.f t.1 t.2.1 t.2.2.1 t.2.2.2) = some (r1, r2, r3, r4)) :
    Calls Tryd.prog 17 #[.string a0, .slice A1 l.length c1] w fun e w' => e = .returned (.tuple #[.agg #[.int .i64 r1, .int .i64 r2, .string r3], .bool r4]) ∧ Below w.heap.size w w' := by
  have hu23 := Tryd.underlying23
  unfold yes3 at h
  obtain ⟨⟨t1, t2, t3⟩, hq, h'⟩ := Option.bind_eq_some_iff.1 h
  clear h
  simp only [Option.some.injEq, Prod.mk.injEq] at h'
  obtain ⟨rfl, rfl, rfl, rfl⟩ := h'
  have h := hq
  clear hq
  have hlen := full_le l
  have hlen1 : (l.length : Int) < 4398046511104 := by omega
  have hC := clone_any A1 c1 l (w.alloc (.cells #[.int .i64 0, .int .i64 0, .string ⟨#[]⟩] 23)) hc1 (by omega) (Kd.C_below hr1 ((Below.refl _ w).alloc (Nat.le_refl _) _))
  have HC := Lib.hid hC
  have HG := Lib.hid hG
  clear hC hr1 hG
  obtain ⟨⟨u1, u2, u3, u4⟩, hn, hh⟩ := Option.bind_eq_some_iff.1 h
  have HN := Lib.hid hn
  have HH := Lib.hid hh
  clear hn hh h
  have e0 := eqb_true h0
  clear h0
  have tok1 : True := trivial
  go_enter Tryd.func17, Tryd.ntmps17
  go_wp2_with (first | (go_at_call 34; (with_reducible refine HC.out.mono ?_); rintro e w1 ⟨v1, rfl, ho1, hb1⟩; have HO1 := Lib.hid ho1; clear ho1) | (go_at_call 33; have _t := tok1; (with_reducible refine (delete_any 35 (fun x => x.f0 == 0) eg_full pred_full _ v1 l w1 HO1.out).mono ?_); rintro e w2 ⟨v2, rfl, ho2, -, hg2⟩; obtain ⟨A2, c2, rfl, hB⟩ := begun HO1.out hb1 ho2 hg2; have HB := Lib.hid hB; clear hB ho2 hg2 tok1) | (go_at_call 37; (with_reducible refine (fold_sum.calls _ _ _ _ _ _ _ _ HB.out.reads HB.out.cap (gl_2_2 HB.out.below HG.out) HN.out).mono ?_); rintro e w3 ⟨rfl, hb3⟩; have K3 := Lib.hid (blk_below HB.out.blk hb3); have HE3 := Lib.hid (below_step HB.out.below hb3)) | (go_at_call 36; (with_reducible refine (fold_told.calls _ _ _ _ _ _ _ _ HH.out).mono ?_); rintro e w4 ⟨rfl, hb4⟩; have K := Lib.hid (blk_below K3.out hb4); have HE := Lib.hid (below_step HE3.out hb4); have x_0 : w4.cell? ⟨w.heap.size, 0, none⟩ = some (.int .i64 0) := (blk_cell K.out 0).trans rfl; have x_1 : w4.cell? ⟨w.heap.size, 1, none⟩ = some (.int .i64 0) := (blk_cell K.out 1).trans rfl; have x_2 : w4.cell? ⟨w.heap.size, 2, none⟩ = some (.string ⟨#[]⟩) := (blk_cell K.out 2).trans rfl; have z_0 := blk_frozen K.out 0; have z_1 := blk_frozen K.out 1; have z_2 := blk_frozen K.out 2; have hs_ := blk_lt K.out))
  refine bodyPost_ret (results_ct rfl _ _ w.heap.size 23 _ (0, 0) _ rfl (blk_put (blk_put (blk_put K.out 0 _ rfl) 1 _ rfl) 2 _ rfl) Tryd.underlying23 rfl (by kernel_rfl)) rfl ?_
  exact ⟨rfl, below_set (below_set (below_set HE.out (Nat.le_refl _)) (Nat.le_refl _)) (Nat.le_refl _)⟩
set_option maxHeartbeats 2000000 in
set_option maxRecDepth 100000 in
theorem of_PRODUCT (a0 : ByteArray) (A1 : Option Addr) (c1 : Nat) (l : List S23) (r1 r2 : Int) (r3 : ByteArray) (r4 : Bool) (w : World) (hr1 : Kd.C k23 w A1 l.length l) (hc1 : l.length ≤ c1) (hlt : l.length < 4398046511104) (hG : G2 w) (h0 : ¬ a0.toList = [83, 85, 77]) (h1 : a0.toList = [80, 82, 79, 68, 85, 67, 84]) (h : yes3 ((numbersF (fun a b _ => num_Mul.f 100 a b) (fullV l) 1 0).bind fun t => fold_told.f t.1 t.2.1 t.2.2.1 t.2.2.2) = some (r1, r2, r3, r4)) :
    Calls Tryd.prog 17 #[.string a0, .slice A1 l.length c1] w fun e w' => e = .returned (.tuple #[.agg #[.int .i64 r1, .int .i64 r2, .string r3], .bool r4]) ∧ Below w.heap.size w w' := by
  have hu23 := Tryd.underlying23
  unfold yes3 at h
  obtain ⟨⟨t1, t2, t3⟩, hq, h'⟩ := Option.bind_eq_some_iff.1 h
  clear h
  simp only [Option.some.injEq, Prod.mk.injEq] at h'
  obtain ⟨rfl, rfl, rfl, rfl⟩ := h'
  have h := hq
  clear hq
  have hlen := full_le l
  have hlen1 : (l.length : Int) < 4398046511104 := by omega
  have hC := clone_any A1 c1 l (w.alloc (.cells #[.int .i64 0, .int .i64 0, .string ⟨#[]⟩] 23)) hc1 (by omega) (Kd.C_below hr1 ((Below.refl _ w).alloc (Nat.le_refl _) _))
  have HC := Lib.hid hC
  have HG := Lib.hid hG
  clear hC hr1 hG
  obtain ⟨⟨u1, u2, u3, u4⟩, hn, hh⟩ := Option.bind_eq_some_iff.1 h
  have HN := Lib.hid hn
  have HH := Lib.hid hh
  clear hn hh h
  have e0 := eqb_false h0
  have e1 := eqb_true h1
  clear h0 h1
  have tok1 : True := trivial
  go_enter Tryd.func17, Tryd.ntmps17
  go_wp2_with (first | (go_at_call 34; (with_reducible refine HC.out.mono ?_); rintro e w1 ⟨v1, rfl, ho1, hb1⟩; have HO1 := Lib.hid ho1; clear ho1) | (go_at_call 33; have _t := tok1; (with_reducible refine (delete_any 35 (fun x => x.f0 == 0) eg_full pred_full _ v1 l w1 HO1.out).mono ?_); rintro e w2 ⟨v2, rfl, ho2, -, hg2⟩; obtain ⟨A2, c2, rfl, hB⟩ := begun HO1.out hb1 ho2 hg2; have HB := Lib.hid hB; clear hB ho2 hg2 tok1) | (go_at_call 38; (with_reducible refine (numbers_any 39 #[] _ eg_mul _ _ _ _ _ (step_mul _) HB.out.reads (gl_2_2 HB.out.below HG.out) _ _ _ _ HN.out).mono ?_); rintro e w3 ⟨rfl, hb3⟩; have K3 := Lib.hid (blk_below HB.out.blk hb3); have HE3 := Lib.hid (below_step HB.out.below hb3)) | (go_at_call 36; (with_reducible refine (fold_told.calls _ _ _ _ _ _ _ _ HH.out).mono ?_); rintro e w4 ⟨rfl, hb4⟩; have K := Lib.hid (blk_below K3.out hb4); have HE := Lib.hid (below_step HE3.out hb4); have x_0 : w4.cell? ⟨w.heap.size, 0, none⟩ = some (.int .i64 0) := (blk_cell K.out 0).trans rfl; have x_1 : w4.cell? ⟨w.heap.size, 1, none⟩ = some (.int .i64 0) := (blk_cell K.out 1).trans rfl; have x_2 : w4.cell? ⟨w.heap.size, 2, none⟩ = some (.string ⟨#[]⟩) := (blk_cell K.out 2).trans rfl; have z_0 := blk_frozen K.out 0; have z_1 := blk_frozen K.out 1; have z_2 := blk_frozen K.out 2; have hs_ := blk_lt K.out))
  refine bodyPost_ret (results_ct rfl _ _ w.heap.size 23 _ (0, 0) _ rfl (blk_put (blk_put (blk_put K.out 0 _ rfl) 1 _ rfl) 2 _ rfl) Tryd.underlying23 rfl (by kernel_rfl)) rfl ?_
  exact ⟨rfl, below_set (below_set (below_set HE.out (Nat.le_refl _)) (Nat.le_refl _)) (Nat.le_refl _)⟩
set_option maxHeartbeats 2000000 in
set_option maxRecDepth 100000 in
theorem of_MIN (a0 : ByteArray) (A1 : Option Addr) (c1 : Nat) (l : List S23) (r1 r2 : Int) (r3 : ByteArray) (r4 : Bool) (w : World) (hr1 : Kd.C k23 w A1 l.length l) (hc1 : l.length ≤ c1) (hlt : l.length < 4398046511104) (hG : G2 w) (h0 : ¬ a0.toList = [83, 85, 77]) (h1 : ¬ a0.toList = [80, 82, 79, 68, 85, 67, 84]) (h2 : a0.toList = [77, 73, 78]) (h : yes3 (bestF (fun a b => decide (a < b)) (fullV l)) = some (r1, r2, r3, r4)) :
    Calls Tryd.prog 17 #[.string a0, .slice A1 l.length c1] w fun e w' => e = .returned (.tuple #[.agg #[.int .i64 r1, .int .i64 r2, .string r3], .bool r4]) ∧ Below w.heap.size w w' := by
  have hu23 := Tryd.underlying23
  unfold yes3 at h
  obtain ⟨⟨t1, t2, t3⟩, hq, h'⟩ := Option.bind_eq_some_iff.1 h
  clear h
  simp only [Option.some.injEq, Prod.mk.injEq] at h'
  obtain ⟨rfl, rfl, rfl, rfl⟩ := h'
  have h := hq
  clear hq
  have hlen := full_le l
  have hlen1 : (l.length : Int) < 4398046511104 := by omega
  have hC := clone_any A1 c1 l (w.alloc (.cells #[.int .i64 0, .int .i64 0, .string ⟨#[]⟩] 23)) hc1 (by omega) (Kd.C_below hr1 ((Below.refl _ w).alloc (Nat.le_refl _) _))
  have HC := Lib.hid hC
  have HG := Lib.hid hG
  clear hC hr1 hG
  have HH := Lib.hid h
  clear h
  have e0 := eqb_false h0
  have e1 := eqb_false h1
  have e2 := eqb_true h2
  clear h0 h1 h2
  have tok1 : True := trivial
  go_enter Tryd.func17, Tryd.ntmps17
  go_wp2_with (first | (go_at_call 34; (with_reducible refine HC.out.mono ?_); rintro e w1 ⟨v1, rfl, ho1, hb1⟩; have HO1 := Lib.hid ho1; clear ho1) | (go_at_call 33; have _t := tok1; (with_reducible refine (delete_any 35 (fun x => x.f0 == 0) eg_full pred_full _ v1 l w1 HO1.out).mono ?_); rintro e w2 ⟨v2, rfl, ho2, -, hg2⟩; obtain ⟨A2, c2, rfl, hB⟩ := begun HO1.out hb1 ho2 hg2; have HB := Lib.hid hB; clear hB ho2 hg2 tok1) | (go_at_call 41; (with_reducible refine (best_any 42 _ eg_less better_less _ _ _ _ _ _ _ HB.out.reads (gl_2_2 HB.out.below HG.out) HH.out).mono ?_); rintro e w4 ⟨rfl, hb4⟩; have K := Lib.hid (blk_below HB.out.blk hb4); have HE := Lib.hid (below_step HB.out.below hb4); have x_0 : w4.cell? ⟨w.heap.size, 0, none⟩ = some (.int .i64 0) := (blk_cell K.out 0).trans rfl; have x_1 : w4.cell? ⟨w.heap.size, 1, none⟩ = some (.int .i64 0) := (blk_cell K.out 1).trans rfl; have x_2 : w4.cell? ⟨w.heap.size, 2, none⟩ = some (.string ⟨#[]⟩) := (blk_cell K.out 2).trans rfl; have z_0 := blk_frozen K.out 0; have z_1 := blk_frozen K.out 1; have z_2 := blk_frozen K.out 2; have hs_ := blk_lt K.out))
  refine bodyPost_ret (results_ct rfl _ _ w.heap.size 23 _ (0, 0) _ rfl (blk_put (blk_put (blk_put K.out 0 _ rfl) 1 _ rfl) 2 _ rfl) Tryd.underlying23 rfl (by kernel_rfl)) rfl ?_
  exact ⟨rfl, below_set (below_set (below_set HE.out (Nat.le_refl _)) (Nat.le_refl _)) (Nat.le_refl _)⟩
set_option maxHeartbeats 2000000 in
set_option maxRecDepth 100000 in
theorem of_MAX (a0 : ByteArray) (A1 : Option Addr) (c1 : Nat) (l : List S23) (r1 r2 : Int) (r3 : ByteArray) (r4 : Bool) (w : World) (hr1 : Kd.C k23 w A1 l.length l) (hc1 : l.length ≤ c1) (hlt : l.length < 4398046511104) (hG : G2 w) (h0 : ¬ a0.toList = [83, 85, 77]) (h1 : ¬ a0.toList = [80, 82, 79, 68, 85, 67, 84]) (h2 : ¬ a0.toList = [77, 73, 78]) (h3 : a0.toList = [77, 65, 88]) (h : yes3 (bestF (fun a b => decide (b < a)) (fullV l)) = some (r1, r2, r3, r4)) :
    Calls Tryd.prog 17 #[.string a0, .slice A1 l.length c1] w fun e w' => e = .returned (.tuple #[.agg #[.int .i64 r1, .int .i64 r2, .string r3], .bool r4]) ∧ Below w.heap.size w w' := by
  have hu23 := Tryd.underlying23
  unfold yes3 at h
  obtain ⟨⟨t1, t2, t3⟩, hq, h'⟩ := Option.bind_eq_some_iff.1 h
  clear h
  simp only [Option.some.injEq, Prod.mk.injEq] at h'
  obtain ⟨rfl, rfl, rfl, rfl⟩ := h'
  have h := hq
  clear hq
  have hlen := full_le l
  have hlen1 : (l.length : Int) < 4398046511104 := by omega
  have hC := clone_any A1 c1 l (w.alloc (.cells #[.int .i64 0, .int .i64 0, .string ⟨#[]⟩] 23)) hc1 (by omega) (Kd.C_below hr1 ((Below.refl _ w).alloc (Nat.le_refl _) _))
  have HC := Lib.hid hC
  have HG := Lib.hid hG
  clear hC hr1 hG
  have HH := Lib.hid h
  clear h
  have e0 := eqb_false h0
  have e1 := eqb_false h1
  have e2 := eqb_false h2
  have e3 := eqb_true h3
  clear h0 h1 h2 h3
  have tok1 : True := trivial
  go_enter Tryd.func17, Tryd.ntmps17
  go_wp2_with (first | (go_at_call 34; (with_reducible refine HC.out.mono ?_); rintro e w1 ⟨v1, rfl, ho1, hb1⟩; have HO1 := Lib.hid ho1; clear ho1) | (go_at_call 33; have _t := tok1; (with_reducible refine (delete_any 35 (fun x => x.f0 == 0) eg_full pred_full _ v1 l w1 HO1.out).mono ?_); rintro e w2 ⟨v2, rfl, ho2, -, hg2⟩; obtain ⟨A2, c2, rfl, hB⟩ := begun HO1.out hb1 ho2 hg2; have HB := Lib.hid hB; clear hB ho2 hg2 tok1) | (go_at_call 41; (with_reducible refine (best_any 43 _ eg_more better_more _ _ _ _ _ _ _ HB.out.reads (gl_2_2 HB.out.below HG.out) HH.out).mono ?_); rintro e w4 ⟨rfl, hb4⟩; have K := Lib.hid (blk_below HB.out.blk hb4); have HE := Lib.hid (below_step HB.out.below hb4); have x_0 : w4.cell? ⟨w.heap.size, 0, none⟩ = some (.int .i64 0) := (blk_cell K.out 0).trans rfl; have x_1 : w4.cell? ⟨w.heap.size, 1, none⟩ = some (.int .i64 0) := (blk_cell K.out 1).trans rfl; have x_2 : w4.cell? ⟨w.heap.size, 2, none⟩ = some (.string ⟨#[]⟩) := (blk_cell K.out 2).trans rfl; have z_0 := blk_frozen K.out 0; have z_1 := blk_frozen K.out 1; have z_2 := blk_frozen K.out 2; have hs_ := blk_lt K.out))
  refine bodyPost_ret (results_ct rfl _ _ w.heap.size 23 _ (0, 0) _ rfl (blk_put (blk_put (blk_put K.out 0 _ rfl) 1 _ rfl) 2 _ rfl) Tryd.underlying23 rfl (by kernel_rfl)) rfl ?_
  exact ⟨rfl, below_set (below_set (below_set HE.out (Nat.le_refl _)) (Nat.le_refl _)) (Nat.le_refl _)⟩
set_option maxHeartbeats 2000000 in
set_option maxRecDepth 100000 in
theorem of_AVG (a0 : ByteArray) (A1 : Option Addr) (c1 : Nat) (l : List S23) (r1 r2 : Int) (r3 : ByteArray) (r4 : Bool) (w : World) (hr1 : Kd.C k23 w A1 l.length l) (hc1 : l.length ≤ c1) (hlt : l.length < 4398046511104) (hG : G2 w) (h0 : ¬ a0.toList = [83, 85, 77]) (h1 : ¬ a0.toList = [80, 82, 79, 68, 85, 67, 84]) (h2 : ¬ a0.toList = [77, 73, 78]) (h3 : ¬ a0.toList = [77, 65, 88]) (h4 : a0.toList = [65, 86, 71]) (h : yes3 (fold_mean.f (fullV l)) = some (r1, r2, r3, r4)) :
    Calls Tryd.prog 17 #[.string a0, .slice A1 l.length c1] w fun e w' => e = .returned (.tuple #[.agg #[.int .i64 r1, .int .i64 r2, .string r3], .bool r4]) ∧ Below w.heap.size w w' := by
  have hu23 := Tryd.underlying23
  unfold yes3 at h
  obtain ⟨⟨t1, t2, t3⟩, hq, h'⟩ := Option.bind_eq_some_iff.1 h
  clear h
  simp only [Option.some.injEq, Prod.mk.injEq] at h'
  obtain ⟨rfl, rfl, rfl, rfl⟩ := h'
  have h := hq
  clear hq
  have hlen := full_le l
  have hlen1 : (l.length : Int) < 4398046511104 := by omega
  have hC := clone_any A1 c1 l (w.alloc (.cells #[.int .i64 0, .int .i64 0, .string ⟨#[]⟩] 23)) hc1 (by omega) (Kd.C_below hr1 ((Below.refl _ w).alloc (Nat.le_refl _) _))
  have HC := Lib.hid hC
  have HG := Lib.hid hG
  clear hC hr1 hG
  have HH := Lib.hid h
  clear h
  have e0 := eqb_false h0
  have e1 := eqb_false h1
  have e2 := eqb_false h2
  have e3 := eqb_false h3
  have e4 := eqb_true h4
  clear h0 h1 h2 h3 h4
  have tok1 : True := trivial
  go_enter Tryd.func17, Tryd.ntmps17
  go_wp2_with (first | (go_at_call 34; (with_reducible refine HC.out.mono ?_); rintro e w1 ⟨v1, rfl, ho1, hb1⟩; have HO1 := Lib.hid ho1; clear ho1) | (go_at_call 33; have _t := tok1; (with_reducible refine (delete_any 35 (fun x => x.f0 == 0) eg_full pred_full _ v1 l w1 HO1.out).mono ?_); rintro e w2 ⟨v2, rfl, ho2, -, hg2⟩; obtain ⟨A2, c2, rfl, hB⟩ := begun HO1.out hb1 ho2 hg2; have HB := Lib.hid hB; clear hB ho2 hg2 tok1) | (go_at_call 44; (with_reducible refine (fold_mean.calls _ _ _ _ _ _ _ HB.out.reads HB.out.cap (gl_2_2 HB.out.below HG.out) HH.out).mono ?_); rintro e w4 ⟨rfl, hb4⟩; have K := Lib.hid (blk_below HB.out.blk hb4); have HE := Lib.hid (below_step HB.out.below hb4); have x_0 : w4.cell? ⟨w.heap.size, 0, none⟩ = some (.int .i64 0) := (blk_cell K.out 0).trans rfl; have x_1 : w4.cell? ⟨w.heap.size, 1, none⟩ = some (.int .i64 0) := (blk_cell K.out 1).trans rfl; have x_2 : w4.cell? ⟨w.heap.size, 2, none⟩ = some (.string ⟨#[]⟩) := (blk_cell K.out 2).trans rfl; have z_0 := blk_frozen K.out 0; have z_1 := blk_frozen K.out 1; have z_2 := blk_frozen K.out 2; have hs_ := blk_lt K.out))
  refine bodyPost_ret (results_ct rfl _ _ w.heap.size 23 _ (0, 0) _ rfl (blk_put (blk_put (blk_put K.out 0 _ rfl) 1 _ rfl) 2 _ rfl) Tryd.underlying23 rfl (by kernel_rfl)) rfl ?_
  exact ⟨rfl, below_set (below_set (below_set HE.out (Nat.le_refl _)) (Nat.le_refl _)) (Nat.le_refl _)⟩
set_option maxHeartbeats 2000000 in
set_option maxRecDepth 100000 in
theorem of_AND (a0 : ByteArray) (A1 : Option Addr) (c1 : Nat) (l : List S23) (r1 r2 : Int) (r3 : ByteArray) (r4 : Bool) (w : World) (hr1 : Kd.C k23 w A1 l.length l) (hc1 : l.length ≤ c1) (hlt : l.length < 4398046511104) (hG : G2 w) (h0 : ¬ a0.toList = [83, 85, 77]) (h1 : ¬ a0.toList = [80, 82, 79, 68, 85, 67, 84]) (h2 : ¬ a0.toList = [77, 73, 78]) (h3 : ¬ a0.toList = [77, 65, 88]) (h4 : ¬ a0.toList = [65, 86, 71]) (h5 : a0.toList = [65, 78, 68]) (h : yes3 (fold_flags.f ((fullV l).length + 10) (fullV l) true) = some (r1, r2, r3, r4)) :
    Calls Tryd.prog 17 #[.string a0, .slice A1 l.length c1] w fun e w' => e = .returned (.tuple #[.agg #[.int .i64 r1, .int .i64 r2, .string r3], .bool r4]) ∧ Below w.heap.size w w' := by
  have hu23 := Tryd.underlying23
  unfold yes3 at h
  obtain ⟨⟨t1, t2, t3⟩, hq, h'⟩ := Option.bind_eq_some_iff.1 h
  clear h
  simp only [Option.some.injEq, Prod.mk.injEq] at h'
  obtain ⟨rfl, rfl, rfl, rfl⟩ := h'
  have h := hq
  clear hq
  have hlen := full_le l
  have hlen1 : (l.length : Int) < 4398046511104 := by omega
  have hC := clone_any A1 c1 l (w.alloc (.cells #[.int .i64 0, .int .i64 0, .string ⟨#[]⟩] 23)) hc1 (by omega) (Kd.C_below hr1 ((Below.refl _ w).alloc (Nat.le_refl _) _))
  have HC := Lib.hid hC
  have HG := Lib.hid hG
  clear hC hr1 hG
  have HH := Lib.hid h
  clear h
  have e0 := eqb_false h0
  have e1 := eqb_false h1
  have e2 := eqb_false h2
  have e3 := eqb_false h3
  have e4 := eqb_false h4
  have e5 := eqb_true h5
  clear h0 h1 h2 h3 h4 h5
  have tok1 : True := trivial
  go_enter Tryd.func17, Tryd.ntmps17
  go_wp2_with (first | (go_at_call 34; (with_reducible refine HC.out.mono ?_); rintro e w1 ⟨v1, rfl, ho1, hb1⟩; have HO1 := Lib.hid ho1; clear ho1) | (go_at_call 33; have _t := tok1; (with_reducible refine (delete_any 35 (fun x => x.f0 == 0) eg_full pred_full _ v1 l w1 HO1.out).mono ?_); rintro e w2 ⟨v2, rfl, ho2, -, hg2⟩; obtain ⟨A2, c2, rfl, hB⟩ := begun HO1.out hb1 ho2 hg2; have HB := Lib.hid hB; clear hB ho2 hg2 tok1) | (go_at_call 45; (with_reducible refine (fold_flags.calls _ _ _ _ _ _ _ _ _ HB.out.reads HB.out.cap HH.out).mono ?_); rintro e w4 ⟨rfl, hb4⟩; have K := Lib.hid (blk_below HB.out.blk hb4); have HE := Lib.hid (below_step HB.out.below hb4); have x_0 : w4.cell? ⟨w.heap.size, 0, none⟩ = some (.int .i64 0) := (blk_cell K.out 0).trans rfl; have x_1 : w4.cell? ⟨w.heap.size, 1, none⟩ = some (.int .i64 0) := (blk_cell K.out 1).trans rfl; have x_2 : w4.cell? ⟨w.heap.size, 2, none⟩ = some (.string ⟨#[]⟩) := (blk_cell K.out 2).trans rfl; have z_0 := blk_frozen K.out 0; have z_1 := blk_frozen K.out 1; have z_2 := blk_frozen K.out 2; have hs_ := blk_lt K.out))
  refine bodyPost_ret (results_ct rfl _ _ w.heap.size 23 _ (0, 0) _ rfl (blk_put (blk_put (blk_put K.out 0 _ rfl) 1 _ rfl) 2 _ rfl) Tryd.underlying23 rfl (by kernel_rfl)) rfl ?_
  exact ⟨rfl, below_set (below_set (below_set HE.out (Nat.le_refl _)) (Nat.le_refl _)) (Nat.le_refl _)⟩
set_option maxHeartbeats 2000000 in
set_option maxRecDepth 100000 in
theorem of_OR (a0 : ByteArray) (A1 : Option Addr) (c1 : Nat) (l : List S23) (r1 r2 : Int) (r3 : ByteArray) (r4 : Bool) (w : World) (hr1 : Kd.C k23 w A1 l.length l) (hc1 : l.length ≤ c1) (hlt : l.length < 4398046511104) (hG : G2 w) (h0 : ¬ a0.toList = [83, 85, 77]) (h1 : ¬ a0.toList = [80, 82, 79, 68, 85, 67, 84]) (h2 : ¬ a0.toList = [77, 73, 78]) (h3 : ¬ a0.toList = [77, 65, 88]) (h4 : ¬ a0.toList = [65, 86, 71]) (h5 : ¬ a0.toList = [65, 78, 68]) (h6 : a0.toList = [79, 82]) (h : yes3 (fold_flags.f ((fullV l).length + 10) (fullV l) false) = some (r1, r2, r3, r4)) :
    Calls Tryd.prog 17 #[.string a0, .slice A1 l.length c1] w fun e w' => e = .returned (.tuple #[.agg #[.int .i64 r1, .int .i64 r2, .string r3], .bool r4]) ∧ Below w.heap.size w w' := by
  have hu23 := Tryd.underlying23
  unfold yes3 at h
  obtain ⟨⟨t1, t2, t3⟩, hq, h'⟩ := Option.bind_eq_some_iff.1 h
  clear h
  simp only [Option.some.injEq, Prod.mk.injEq] at h'
  obtain ⟨rfl, rfl, rfl, rfl⟩ := h'
  have h := hq
  clear hq
  have hlen := full_le l
  have hlen1 : (l.length : Int) < 4398046511104 := by omega
  have hC := clone_any A1 c1 l (w.alloc (.cells #[.int .i64 0, .int .i64 0, .string ⟨#[]⟩] 23)) hc1 (by omega) (Kd.C_below hr1 ((Below.refl _ w).alloc (Nat.le_refl _) _))
  have HC := Lib.hid hC
  have HG := Lib.hid hG
  clear hC hr1 hG
  have HH := Lib.hid h
  clear h
  have e0 := eqb_false h0
  have e1 := eqb_false h1
  have e2 := eqb_false h2
  have e3 := eqb_false h3
  have e4 := eqb_false h4
  have e5 := eqb_false h5
  have e6 := eqb_true h6
  clear h0 h1 h2 h3 h4 h5 h6
  have tok1 : True := trivial
  go_enter Tryd.func17, Tryd.ntmps17
  go_wp2_with (first | (go_at_call 34; (with_reducible refine HC.out.mono ?_); rintro e w1 ⟨v1, rfl, ho1, hb1⟩; have HO1 := Lib.hid ho1; clear ho1) | (go_at_call 33; have _t := tok1; (with_reducible refine (delete_any 35 (fun x => x.f0 == 0) eg_full pred_full _ v1 l w1 HO1.out).mono ?_); rintro e w2 ⟨v2, rfl, ho2, -, hg2⟩; obtain ⟨A2, c2, rfl, hB⟩ := begun HO1.out hb1 ho2 hg2; have HB := Lib.hid hB; clear hB ho2 hg2 tok1) | (go_at_call 45; (with_reducible refine (fold_flags.calls _ _ _ _ _ _ _ _ _ HB.out.reads HB.out.cap HH.out).mono ?_); rintro e w4 ⟨rfl, hb4⟩; have K := Lib.hid (blk_below HB.out.blk hb4); have HE := Lib.hid (below_step HB.out.below hb4); have x_0 : w4.cell? ⟨w.heap.size, 0, none⟩ = some (.int .i64 0) := (blk_cell K.out 0).trans rfl; have x_1 : w4.cell? ⟨w.heap.size, 1, none⟩ = some (.int .i64 0) := (blk_cell K.out 1).trans rfl; have x_2 : w4.cell? ⟨w.heap.size, 2, none⟩ = some (.string ⟨#[]⟩) := (blk_cell K.out 2).trans rfl; have z_0 := blk_frozen K.out 0; have z_1 := blk_frozen K.out 1; have z_2 := blk_frozen K.out 2; have hs_ := blk_lt K.out))
  refine bodyPost_ret (results_ct rfl _ _ w.heap.size 23 _ (0, 0) _ rfl (blk_put (blk_put (blk_put K.out 0 _ rfl) 1 _ rfl) 2 _ rfl) Tryd.underlying23 rfl (by kernel_rfl)) rfl ?_
  exact ⟨rfl, below_set (below_set (below_set HE.out (Nat.le_refl _)) (Nat.le_refl _)) (Nat.le_refl _)⟩
set_option maxHeartbeats 2000000 in
set_option maxRecDepth 100000 in
theorem of_JOIN (a0 : ByteArray) (A1 : Option Addr) (c1 : Nat) (l : List S23) (r1 r2 : Int) (r3 : ByteArray) (r4 : Bool) (w : World) (hr1 : Kd.C k23 w A1 l.length l) (hc1 : l.length ≤ c1) (hlt : l.length < 4398046511104) (hG : G2 w) (h0 : ¬ a0.toList = [83, 85, 77]) (h1 : ¬ a0.toList = [80, 82, 79, 68, 85, 67, 84]) (h2 : ¬ a0.toList = [77, 73, 78]) (h3 : ¬ a0.toList = [77, 65, 88]) (h4 : ¬ a0.toList = [65, 86, 71]) (h5 : ¬ a0.toList = [65, 78, 68]) (h6 : ¬ a0.toList = [79, 82]) (h7 : a0.toList = [74, 79, 73, 78]) (h : yes3 (fold_joined.f ((fullV l).length + 10) (fullV l)) = some (r1, r2, r3, r4)) :
    Calls Tryd.prog 17 #[.string a0, .slice A1 l.length c1] w fun e w' => e = .returned (.tuple #[.agg #[.int .i64 r1, .int .i64 r2, .string r3], .bool r4]) ∧ Below w.heap.size w w' := by
  have hu23 := Tryd.underlying23
  unfold yes3 at h
  obtain ⟨⟨t1, t2, t3⟩, hq, h'⟩ := Option.bind_eq_some_iff.1 h
  clear h
  simp only [Option.some.injEq, Prod.mk.injEq] at h'
  obtain ⟨rfl, rfl, rfl, rfl⟩ := h'
  have h := hq
  clear hq
  have hlen := full_le l
  have hlen1 : (l.length : Int) < 4398046511104 := by omega
  have hC := clone_any A1 c1 l (w.alloc (.cells #[.int .i64 0, .int .i64 0, .string ⟨#[]⟩] 23)) hc1 (by omega) (Kd.C_below hr1 ((Below.refl _ w).alloc (Nat.le_refl _) _))
  have HC := Lib.hid hC
  have HG := Lib.hid hG
  clear hC hr1 hG
  have HH := Lib.hid h
  clear h
  have e0 := eqb_false h0
  have e1 := eqb_false h1
  have e2 := eqb_false h2
  have e3 := eqb_false h3
  have e4 := eqb_false h4
  have e5 := eqb_false h5
  have e6 := eqb_false h6
  have e7 := eqb_true h7
  clear h0 h1 h2 h3 h4 h5 h6 h7
  have tok1 : True := trivial
  go_enter Tryd.func17, Tryd.ntmps17
  go_wp2_with (first | (go_at_call 34; (with_reducible refine HC.out.mono ?_); rintro e w1 ⟨v1, rfl, ho1, hb1⟩; have HO1 := Lib.hid ho1; clear ho1) | (go_at_call 33; have _t := tok1; (with_reducible refine (delete_any 35 (fun x => x.f0 == 0) eg_full pred_full _ v1 l w1 HO1.out).mono ?_); rintro e w2 ⟨v2, rfl, ho2, -, hg2⟩; obtain ⟨A2, c2, rfl, hB⟩ := begun HO1.out hb1 ho2 hg2; have HB := Lib.hid hB; clear hB ho2 hg2 tok1) | (go_at_call 46; (with_reducible refine (fold_joined.calls _ _ _ _ _ _ _ _ HB.out.reads HB.out.cap (gl_2_1 HB.out.below HG.out) HH.out).mono ?_); rintro e w4 ⟨rfl, hb4⟩; have K := Lib.hid (blk_below HB.out.blk hb4); have HE := Lib.hid (below_step HB.out.below hb4); have x_0 : w4.cell? ⟨w.heap.size, 0, none⟩ = some (.int .i64 0) := (blk_cell K.out 0).trans rfl; have x_1 : w4.cell? ⟨w.heap.size, 1, none⟩ = some (.int .i64 0) := (blk_cell K.out 1).trans rfl; have x_2 : w4.cell? ⟨w.heap.size, 2, none⟩ = some (.string ⟨#[]⟩) := (blk_cell K.out 2).trans rfl; have z_0 := blk_frozen K.out 0; have z_1 := blk_frozen K.out 1; have z_2 := blk_frozen K.out 2; have hs_ := blk_lt K.out))
  refine bodyPost_ret (results_ct rfl _ _ w.heap.size 23 _ (0, 0) _ rfl (blk_put (blk_put (blk_put K.out 0 _ rfl) 1 _ rfl) 2 _ rfl) Tryd.underlying23 rfl (by kernel_rfl)) rfl ?_
  exact ⟨rfl, below_set (below_set (below_set HE.out (Nat.le_refl _)) (Nat.le_refl _)) (Nat.le_refl _)⟩
set_option maxHeartbeats 2000000 in
set_option maxRecDepth 100000 in
theorem of_COUNT (a0 : ByteArray) (A1 : Option Addr) (c1 : Nat) (l : List S23) (r1 r2 : Int) (r3 : ByteArray) (r4 : Bool) (w : World) (hr1 : Kd.C k23 w A1 l.length l) (hc1 : l.length ≤ c1) (hlt : l.length < 4398046511104) (hG : G2 w) (h0 : ¬ a0.toList = [83, 85, 77]) (h1 : ¬ a0.toList = [80, 82, 79, 68, 85, 67, 84]) (h2 : ¬ a0.toList = [77, 73, 78]) (h3 : ¬ a0.toList = [77, 65, 88]) (h4 : ¬ a0.toList = [65, 86, 71]) (h5 : ¬ a0.toList = [65, 78, 68]) (h6 : ¬ a0.toList = [79, 82]) (h7 : ¬ a0.toList = [74, 79, 73, 78]) (h8 : a0.toList = [67, 79, 85, 78, 84]) (h : yes3 (fold_whole.f ((intsV (fullV l)).length : Int)) = some (r1, r2, r3, r4)) :
    Calls Tryd.prog 17 #[.string a0, .slice A1 l.length c1] w fun e w' => e = .returned (.tuple #[.agg #[.int .i64 r1, .int .i64 r2, .string r3], .bool r4]) ∧ Below w.heap.size w w' := by
  have hu23 := Tryd.underlying23
  unfold yes3 at h
  obtain ⟨⟨t1, t2, t3⟩, hq, h'⟩ := Option.bind_eq_some_iff.1 h
  clear h
  simp only [Option.some.injEq, Prod.mk.injEq] at h'
  obtain ⟨rfl, rfl, rfl, rfl⟩ := h'
  have h := hq
  clear hq
  have hlen := full_le l
  have hlen1 : (l.length : Int) < 4398046511104 := by omega
  have hC := clone_any A1 c1 l (w.alloc (.cells #[.int .i64 0, .int .i64 0, .string ⟨#[]⟩] 23)) hc1 (by omega) (Kd.C_below hr1 ((Below.refl _ w).alloc (Nat.le_refl _) _))
  have HC := Lib.hid hC
  have HG := Lib.hid hG
  clear hC hr1 hG
  have HH := Lib.hid (show fold_whole.f ((((fullV l).filter fun x => !(x.f0 != 2)).length : Nat) : Int) = some (t1, t2, t3) from h)
  clear h
  have e0 := eqb_false h0
  have e1 := eqb_false h1
  have e2 := eqb_false h2
  have e3 := eqb_false h3
  have e4 := eqb_false h4
  have e5 := eqb_false h5
  have e6 := eqb_false h6
  have e7 := eqb_false h7
  have e8 := eqb_true h8
  clear h0 h1 h2 h3 h4 h5 h6 h7 h8
  have tok1 : True := trivial
  go_enter Tryd.func17, Tryd.ntmps17
  go_wp2_with (first | (go_at_call 34; (with_reducible refine HC.out.mono ?_); rintro e w1 ⟨v1, rfl, ho1, hb1⟩; have HO1 := Lib.hid ho1; clear ho1) | (go_at_call 33; have _t := tok1; (with_reducible refine (delete_any 35 (fun x => x.f0 == 0) eg_full pred_full _ v1 l w1 HO1.out).mono ?_); rintro e w2 ⟨v2, rfl, ho2, -, hg2⟩; obtain ⟨A2, c2, rfl, hB⟩ := begun HO1.out hb1 ho2 hg2; have HB := Lib.hid hB; clear hB ho2 hg2 tok1) | (go_at_call 33; (with_reducible refine (delete_any 47 (fun x => x.f0 != 2) eg_ints pred_ints _ _ (fullV l) w2 HB.out.own).mono ?_); rintro e w3 ⟨v3, rfl, ho3, -, hg3⟩; obtain ⟨A3, c3, rfl, hle3, hC3⟩ := C_of_own ho3; have K3 := Lib.hid (count_blk HB.out hg3); have HE3 := Lib.hid (count_below HB.out hg3); clear ho3 hg3 hC3) | (go_at_call 31; (with_reducible refine (fold_whole.calls _ _ _ _ _ HH.out).mono ?_); rintro e w4 ⟨rfl, hb4⟩; have K := Lib.hid (blk_below K3.out hb4); have HE := Lib.hid (below_step HE3.out hb4); have x_0 : w4.cell? ⟨w.heap.size, 0, none⟩ = some (.int .i64 0) := (blk_cell K.out 0).trans rfl; have x_1 : w4.cell? ⟨w.heap.size, 1, none⟩ = some (.int .i64 0) := (blk_cell K.out 1).trans rfl; have x_2 : w4.cell? ⟨w.heap.size, 2, none⟩ = some (.string ⟨#[]⟩) := (blk_cell K.out 2).trans rfl; have z_0 := blk_frozen K.out 0; have z_1 := blk_frozen K.out 1; have z_2 := blk_frozen K.out 2; have hs_ := blk_lt K.out))
  refine bodyPost_ret (results_ct rfl _ _ w.heap.size 23 _ (0, 0) _ rfl (blk_put (blk_put (blk_put K.out 0 _ rfl) 1 _ rfl) 2 _ rfl) Tryd.underlying23 rfl (by kernel_rfl)) rfl ?_
  exact ⟨rfl, below_set (below_set (below_set HE.out (Nat.le_refl _)) (Nat.le_refl _)) (Nat.le_refl _)⟩
set_option maxHeartbeats 2000000 in
set_option maxRecDepth 100000 in
theorem of_COUNTA (a0 : ByteArray) (A1 : Option Addr) (c1 : Nat) (l : List S23) (r1 r2 : Int) (r3 : ByteArray) (r4 : Bool) (w : World) (hr1 : Kd.C k23 w A1 l.length l) (hc1 : l.length ≤ c1) (hlt : l.length < 4398046511104) (hG : G2 w) (h0 : ¬ a0.toList = [83, 85, 77]) (h1 : ¬ a0.toList = [80, 82, 79, 68, 85, 67, 84]) (h2 : ¬ a0.toList = [77, 73, 78]) (h3 : ¬ a0.toList = [77, 65, 88]) (h4 : ¬ a0.toList = [65, 86, 71]) (h5 : ¬ a0.toList = [65, 78, 68]) (h6 : ¬ a0.toList = [79, 82]) (h7 : ¬ a0.toList = [74, 79, 73, 78]) (h8 : ¬ a0.toList = [67, 79, 85, 78, 84]) (h9 : a0.toList = [67, 79, 85, 78, 84, 65]) (h : yes3 (fold_whole.f ((fullV l).length : Int)) = some (r1, r2, r3, r4)) :
    Calls Tryd.prog 17 #[.string a0, .slice A1 l.length c1] w fun e w' => e = .returned (.tuple #[.agg #[.int .i64 r1, .int .i64 r2, .string r3], .bool r4]) ∧ Below w.heap.size w w' := by
  have hu23 := Tryd.underlying23
  unfold yes3 at h
  obtain ⟨⟨t1, t2, t3⟩, hq, h'⟩ := Option.bind_eq_some_iff.1 h
  clear h
  simp only [Option.some.injEq, Prod.mk.injEq] at h'
  obtain ⟨rfl, rfl, rfl, rfl⟩ := h'
  have h := hq
  clear hq
  have hlen := full_le l
  have hlen1 : (l.length : Int) < 4398046511104 := by omega
  have hC := clone_any A1 c1 l (w.alloc (.cells #[.int .i64 0, .int .i64 0, .string ⟨#[]⟩] 23)) hc1 (by omega) (Kd.C_below hr1 ((Below.refl _ w).alloc (Nat.le_refl _) _))
  have HC := Lib.hid hC
  have HG := Lib.hid hG
  clear hC hr1 hG
  have HH := Lib.hid h
  clear h
  have e0 := eqb_false h0
  have e1 := eqb_false h1
  have e2 := eqb_false h2
  have e3 := eqb_false h3
  have e4 := eqb_false h4
  have e5 := eqb_false h5
  have e6 := eqb_false h6
  have e7 := eqb_false h7
  have e8 := eqb_false h8
  have e9 := eqb_true h9
  clear h0 h1 h2 h3 h4 h5 h6 h7 h8 h9
  have tok1 : True := trivial
  go_enter Tryd.func17, Tryd.ntmps17
  go_wp2_with (first | (go_at_call 34; (with_reducible refine HC.out.mono ?_); rintro e w1 ⟨v1, rfl, ho1, hb1⟩; have HO1 := Lib.hid ho1; clear ho1) | (go_at_call 33; have _t := tok1; (with_reducible refine (delete_any 35 (fun x => x.f0 == 0) eg_full pred_full _ v1 l w1 HO1.out).mono ?_); rintro e w2 ⟨v2, rfl, ho2, -, hg2⟩; obtain ⟨A2, c2, rfl, hB⟩ := begun HO1.out hb1 ho2 hg2; have HB := Lib.hid hB; clear hB ho2 hg2 tok1) | (go_at_call 31; (with_reducible refine (fold_whole.calls _ _ _ _ _ HH.out).mono ?_); rintro e w4 ⟨rfl, hb4⟩; have K := Lib.hid (blk_below HB.out.blk hb4); have HE := Lib.hid (below_step HB.out.below hb4); have x_0 : w4.cell? ⟨w.heap.size, 0, none⟩ = some (.int .i64 0) := (blk_cell K.out 0).trans rfl; have x_1 : w4.cell? ⟨w.heap.size, 1, none⟩ = some (.int .i64 0) := (blk_cell K.out 1).trans rfl; have x_2 : w4.cell? ⟨w.heap.size, 2, none⟩ = some (.string ⟨#[]⟩) := (blk_cell K.out 2).trans rfl; have z_0 := blk_frozen K.out 0; have z_1 := blk_frozen K.out 1; have z_2 := blk_frozen K.out 2; have hs_ := blk_lt K.out))
  refine bodyPost_ret (results_ct rfl _ _ w.heap.size 23 _ (0, 0) _ rfl (blk_put (blk_put (blk_put K.out 0 _ rfl) 1 _ rfl) 2 _ rfl) Tryd.underlying23 rfl (by kernel_rfl)) rfl ?_
  exact ⟨rfl, below_set (below_set (below_set HE.out (Nat.le_refl _)) (Nat.le_refl _)) (Nat.le_refl _)⟩
set_option maxHeartbeats 2000000 in
set_option maxRecDepth 100000 in
theorem of_none (a0 : ByteArray) (A1 : Option Addr) (c1 : Nat) (l : List S23) (w : World) (hr1 : Kd.C k23 w A1 l.length l) (hc1 : l.length ≤ c1) (hlt : l.length < 4398046511104) (hG : G2 w) (h0 : ¬ a0.toList = [83, 85, 77]) (h1 : ¬ a0.toList = [80, 82, 79, 68, 85, 67, 84]) (h2 : ¬ a0.toList = [77, 73, 78]) (h3 : ¬ a0.toList = [77, 65, 88]) (h4 : ¬ a0.toList = [65, 86, 71]) (h5 : ¬ a0.toList = [65, 78, 68]) (h6 : ¬ a0.toList = [79, 82]) (h7 : ¬ a0.toList = [74, 79, 73, 78]) (h8 : ¬ a0.toList = [67, 79, 85, 78, 84]) (h9 : ¬ a0.toList = [67, 79, 85, 78, 84, 65]) :
    Calls Tryd.prog 17 #[.string a0, .slice A1 l.length c1] w fun e w' => e = .returned (.tuple #[.agg #[.int .i64 0, .int .i64 0, .string ⟨#[]⟩], .bool false]) ∧ Below w.heap.size w w' := by
  have hu23 := Tryd.underlying23
  have hC := clone_any A1 c1 l (w.alloc (.cells #[.int .i64 0, .int .i64 0, .string ⟨#[]⟩] 23)) hc1 (by omega) (Kd.C_below hr1 ((Below.refl _ w).alloc (Nat.le_refl _) _))
  have HC := Lib.hid hC
  have HG := Lib.hid hG
  clear hC hr1 hG
  have e0 := eqb_false h0
  have e1 := eqb_false h1
  have e2 := eqb_false h2
  have e3 := eqb_false h3
  have e4 := eqb_false h4
  have e5 := eqb_false h5
  have e6 := eqb_false h6
  have e7 := eqb_false h7
  have e8 := eqb_false h8
  have e9 := eqb_false h9
  clear h0 h1 h2 h3 h4 h5 h6 h7 h8 h9
  have tok1 : True := trivial
  go_enter Tryd.func17, Tryd.ntmps17
  go_wp2_with (first | (go_at_call 34; (with_reducible refine HC.out.mono ?_); rintro e w1 ⟨v1, rfl, ho1, hb1⟩; have HO1 := Lib.hid ho1; clear ho1) | (go_at_call 33; have _t := tok1; (with_reducible refine (delete_any 35 (fun x => x.f0 == 0) eg_full pred_full _ v1 l w1 HO1.out).mono ?_); rintro e w2 ⟨v2, rfl, ho2, -, hg2⟩; obtain ⟨A2, c2, rfl, hB⟩ := begun HO1.out hb1 ho2 hg2; have HB := Lib.hid hB; have K := Lib.hid hB.blk; have HE := Lib.hid hB.below; clear hB ho2 hg2 tok1; have x_0 : w2.cell? ⟨w.heap.size, 0, none⟩ = some (.int .i64 0) := (blk_cell K.out 0).trans rfl; have x_1 : w2.cell? ⟨w.heap.size, 1, none⟩ = some (.int .i64 0) := (blk_cell K.out 1).trans rfl; have x_2 : w2.cell? ⟨w.heap.size, 2, none⟩ = some (.string ⟨#[]⟩) := (blk_cell K.out 2).trans rfl; have z_0 := blk_frozen K.out 0; have z_1 := blk_frozen K.out 1; have z_2 := blk_frozen K.out 2; have hs_ := blk_lt K.out))
  refine bodyPost_ret (results_ct rfl _ _ w.heap.size 23 _ (0, 0) _ rfl (blk_put (blk_put (blk_put K.out 0 _ rfl) 1 _ rfl) 2 _ rfl) Tryd.underlying23 rfl (by kernel_rfl)) rfl ?_
  exact ⟨rfl, below_set (below_set (below_set HE.out (Nat.le_refl _)) (Nat.le_refl _)) (Nat.le_refl _)⟩
theorem fold_Of.calls (a0 : ByteArray) (A1 : Option Addr) (c1 : Nat) (l1 : List S23) (r1 r2 : Int) (r3 : ByteArray) (r4 : Bool) (w : World) (hr1 : Kd.C k23 w A1 l1.length l1) (hc1 : l1.length ≤ c1) (hG : G2 w) (h : fold_Of.f a0 l1 = some (r1, r2, r3, r4)) :
    Calls Tryd.prog 17 #[.string a0, .slice A1 l1.length c1] w fun e w' => e = .returned (.tuple #[.agg #[.int .i64 r1, .int .i64 r2, .string r3], .bool r4]) ∧ Below w.heap.size w w' := by
  unfold fold_Of.f at h
  split at h
  · rename_i hlt
    unfold ofF at h
    by_cases h0 : a0.toList = [83, 85, 77]
    · rw [if_pos h0] at h; exact of_SUM a0 A1 c1 l1 r1 r2 r3 r4 w hr1 hc1 hlt hG h0 h
    rw [if_neg h0] at h
    by_cases h1 : a0.toList = [80, 82, 79, 68, 85, 67, 84]
    · rw [if_pos h1] at h; exact of_PRODUCT a0 A1 c1 l1 r1 r2 r3 r4 w hr1 hc1 hlt hG h0 h1 h
    rw [if_neg h1] at h
    by_cases h2 : a0.toList = [77, 73, 78]
    · rw [if_pos h2] at h; exact of_MIN a0 A1 c1 l1 r1 r2 r3 r4 w hr1 hc1 hlt hG h0 h1 h2 h
    rw [if_neg h2] at h
    by_cases h3 : a0.toList = [77, 65, 88]
    · rw [if_pos h3] at h; exact of_MAX a0 A1 c1 l1 r1 r2 r3 r4 w hr1 hc1 hlt hG h0 h1 h2 h3 h
    rw [if_neg h3] at h
    by_cases h4 : a0.toList = [65, 86, 71]
    · rw [if_pos h4] at h; exact of_AVG a0 A1 c1 l1 r1 r2 r3 r4 w hr1 hc1 hlt hG h0 h1 h2 h3 h4 h
    rw [if_neg h4] at h
    by_cases h5 : a0.toList = [65, 78, 68]
    · rw [if_pos h5] at h; exact of_AND a0 A1 c1 l1 r1 r2 r3 r4 w hr1 hc1 hlt hG h0 h1 h2 h3 h4 h5 h
    rw [if_neg h5] at h
    by_cases h6 : a0.toList = [79, 82]
    · rw [if_pos h6] at h; exact of_OR a0 A1 c1 l1 r1 r2 r3 r4 w hr1 hc1 hlt hG h0 h1 h2 h3 h4 h5 h6 h
    rw [if_neg h6] at h
    by_cases h7 : a0.toList = [74, 79, 73, 78]
    · rw [if_pos h7] at h; exact of_JOIN a0 A1 c1 l1 r1 r2 r3 r4 w hr1 hc1 hlt hG h0 h1 h2 h3 h4 h5 h6 h7 h
    rw [if_neg h7] at h
    by_cases h8 : a0.toList = [67, 79, 85, 78, 84]
    · rw [if_pos h8] at h; exact of_COUNT a0 A1 c1 l1 r1 r2 r3 r4 w hr1 hc1 hlt hG h0 h1 h2 h3 h4 h5 h6 h7 h8 h
    rw [if_neg h8] at h
    by_cases h9 : a0.toList = [67, 79, 85, 78, 84, 65]
    · rw [if_pos h9] at h; exact of_COUNTA a0 A1 c1 l1 r1 r2 r3 r4 w hr1 hc1 hlt hG h0 h1 h2 h3 h4 h5 h6 h7 h8 h9 h
    rw [if_neg h9] at h
    simp only [Option.some.injEq, Prod.mk.injEq] at h
    obtain ⟨rfl, rfl, rfl, rfl⟩ := h
    exact of_none a0 A1 c1 l1 w hr1 hc1 hlt hG h0 h1 h2 h3 h4 h5 h6 h7 h8 h9
  · cases h
end Go.Proofs.YtmdmpafdpgdpoaaDoor.P
