/- Contracts of the functions that the law reaches, each with the plain function that it comes to, and plain facts about these. -/
import Derived.Test.YtkjfcepggpdokaaRRRRDoorBVT1
import Derived.Test.YtkjfcepggpdokaaRRRRDoorBVT2
import Derived.Test.YtkjfcepggpdokaaRRRRDoorBVT3
namespace Go.Proofs.YtkjfcepggpdokaaRRRRDoor.P
open Go.RowKit Go.Proofs.YtkjfcepggpdokaaRRRRDoorW.PrintWords Go.Proofs.YtkjfcepggpdokaaRRRRDoorW.PrintLast Go.Proofs.YtkjfcepggpdokaaRRRRDoorW.PrintMore
attribute [local go_sem] max2_int min2_int max_two min_two max_three min_three max_four min_four   -- for this text's walks alone
set_option linter.unusedVariables false
set_option linter.unusedSimpArgs false

/-! ### value_Str: function 22 -/
def value_Str.f (k : Nat) (a0_0 : Int) (a0_1 : Int) (a0_2 : ByteArray) : Option (ByteArray × Int × Int × ByteArray) := (value_fault.f k a0_0 a0_1 a0_2).bind fun bt250 => (if bt250.1 = 0 then ((value_Show.f a0_0 a0_1 a0_2).bind fun t254 => (some (t254, 0, 0, (⟨#[]⟩ : ByteArray)))) else (some ((⟨#[]⟩ : ByteArray), bt250.1, bt250.2.1, bt250.2.2)))
theorem value_Str.mono : ∀ a0 a1 a2 k, LeO (value_Str.f k a0 a1 a2) (value_Str.f (k + 1) a0 a1 a2) := by
  intro a0 a1 a2 k
  unfold value_Str.f
  repeat' first
      | (with_reducible exact value_fault.mono _ _ _ _)
      | (with_reducible exact LeO.refl _)
      | (with_reducible exact LeO.none _)
      | (with_reducible refine LeO.ite ?_ ?_)
      | (with_reducible refine LeO.bind ?_ (fun _ => ?_))
      | exact value_fault.mono _ _ _ _
      | exact LeO.none _
      | refine LeO.ite ?_ ?_
      | refine LeO.bind ?_ (fun _ => ?_)
set_option maxHeartbeats 8000000 in
set_option maxRecDepth 100000 in
theorem value_Str.calls (k : Nat) (a0_0 : Int) (a0_1 : Int) (a0_2 : ByteArray) (r1 : ByteArray) (r2 : Int) (r3 : Int) (r4 : ByteArray) (w : World) (hG : G1 w) (h : value_Str.f k a0_0 a0_1 a0_2 = some (r1, r2, r3, r4)) :
    Calls Tryd.prog 22 #[.agg #[.int .i64 a0_0, .int .i64 a0_1, .string a0_2]] w fun e w' => e = .returned (.tuple #[.string r1, .agg #[.int .i64 r2, .int .i64 r3, .string r4]]) ∧ Below w.heap.size w w' := by
  have hu23 := Tryd.underlying23
  have HB := Aside0.mk (Below.refl w.heap.size w)
  have H : ((value_fault.f k a0_0 a0_1 a0_2).bind fun bt250 => (if bt250.1 = 0 then ((value_Show.f a0_0 a0_1 a0_2).bind fun t254 => (some (t254, 0, 0, (⟨#[]⟩ : ByteArray)))) else (some ((⟨#[]⟩ : ByteArray), bt250.1, bt250.2.1, bt250.2.2)))) = some (r1, r2, r3, r4) := h
  clear h
  replace H := Option.bind_eq_some_iff.mp H
  obtain ⟨⟨t250, t251, t252⟩, A20, H⟩ := H
  replace H : (if t250 = 0 then ((value_Show.f a0_0 a0_1 a0_2).bind fun t254 => (some (t254, 0, 0, (⟨#[]⟩ : ByteArray)))) else (some ((⟨#[]⟩ : ByteArray), t250, t251, t252))) = some (r1, r2, r3, r4) := H
  have A2 := Aside0.mk A20
  clear A20
  by_cases c3 : t250 = 0
  · rw [if_pos c3] at H
    have c3b0 : (t250 == 0) = true := beq_iff_eq.mpr c3
    have c3b1 : (t250 != 0) = false := bne_eq_false_iff_eq.mpr c3
    clear c3
    replace H := Option.bind_eq_some_iff.mp H
    obtain ⟨t254, A40, H⟩ := H
    replace H : (some (t254, 0, 0, (⟨#[]⟩ : ByteArray))) = some (r1, r2, r3, r4) := H
    have A4 := Aside0.mk A40
    clear A40
    simp only [Option.some.injEq, Prod.mk.injEq] at H
    obtain ⟨rfl, rfl, rfl, rfl⟩ := H
    go_enter Tryd.func22, Tryd.ntmps22
    go_wp2_with (first | ((with_reducible refine gate_dst (N := 1) rfl ?_); refine box_event ?hg (N := 1) ?hd (cs := #[.int .i64 a0_0, .int .i64 a0_1, .string a0_2]) (t := 23) ?hr ?_; (case hd => rfl); (case hg => rfl); (case hr => first | (go_simp; done) | (go_simp; rfl)); intro gb248 hg w5 hbox hb; have n0_ := Aside0.mk (below_step (by repeat (first | (with_reducible first | exact HB.out | apply below_alloc | apply pw_below_drewN | apply below_drew1) | exact HB.out)) hb); have n1_ := Aside0.mk (hbox); have n2_ := Aside0.mk ((by rw [hg]; exact (below_size (by repeat (first | (with_reducible first | exact HB.out | apply below_alloc | apply pw_below_drewN | apply below_drew1) | exact HB.out))) : w.heap.size ≤ gb248)); have n3_ := Aside0.mk ((by rw [hg]; exact (below_size (by repeat (first | (with_reducible first | exact HB.out | apply below_alloc | apply pw_below_drewN | apply below_drew1) | exact HB.out))) : w.heap.size ≤ gb248)); clear HB; have HB := n0_; have BK248 := n1_; have GW248 := n2_; have GE248 := n3_; clear n0_ n1_ n2_ n3_; clear hb hbox hg) | ((with_reducible refine gate_dst (N := 3) rfl ?_); refine box_event ?hg (N := 3) ?hd (cs := #[.int .i64 0, .int .i64 0, .string (⟨#[]⟩ : ByteArray)]) (t := 23) ?hr ?_; (case hd => rfl); (case hg => rfl); (case hr => first | (go_simp; done) | (go_simp; rfl)); intro gb249 hg w6 hbox hb; have n0_ := Aside0.mk (blk_below (g := gb248) (o := .cells #[.int .i64 a0_0, .int .i64 a0_1, .string a0_2] 23 (0, 0)) (by (with_reducible repeat (first | refine blk_drewN ?_ _ | refine blk_drew ?_ | refine blk_alloc ?_ _)); exact BK248.out) hb); have n1_ := Aside0.mk (below_step (by repeat (first | (with_reducible first | exact HB.out | apply below_alloc | apply pw_below_drewN | apply below_drew1 | refine below_set ?_ GE248.out) | exact HB.out)) hb); have n2_ := Aside0.mk (hbox); have n3_ := Aside0.mk ((by rw [hg]; exact (below_size (by repeat (first | (with_reducible first | exact HB.out | apply below_alloc | apply pw_below_drewN | apply below_drew1 | refine below_set ?_ GE248.out) | exact HB.out))) : w.heap.size ≤ gb249)); have n4_ := Aside0.mk ((by rw [hg]; exact (below_size (by repeat (first | (with_reducible first | exact HB.out | apply below_alloc | apply pw_below_drewN | apply below_drew1 | refine below_set ?_ GE248.out) | exact HB.out))) : w.heap.size ≤ gb249)); have n5_ := Aside0.mk ((by rw [hg]; exact Nat.ne_of_lt (blk_lt (g := gb248) (o := .cells #[.int .i64 a0_0, .int .i64 a0_1, .string a0_2] 23 (0, 0)) (by (with_reducible repeat (first | refine blk_drewN ?_ _ | refine blk_drew ?_ | refine blk_alloc ?_ _)); exact BK248.out)) : gb248 ≠ gb249)); have n6_ := Aside0.mk ((by rw [hg]; exact Nat.ne_of_gt (blk_lt (g := gb248) (o := .cells #[.int .i64 a0_0, .int .i64 a0_1, .string a0_2] 23 (0, 0)) (by (with_reducible repeat (first | refine blk_drewN ?_ _ | refine blk_drew ?_ | refine blk_alloc ?_ _)); exact BK248.out)) : gb249 ≠ gb248)); clear BK248; clear HB; have BK248 := n0_; have HB := n1_; have BK249 := n2_; have GW249 := n3_; have GE249 := n4_; have NB248_249 := n5_; have NB249_248 := n6_; clear n0_ n1_ n2_ n3_ n4_ n5_ n6_; clear hb hbox hg; have hnb7 := NB248_249.out; have hnc7 := NB249_248.out; have hcz8_0 : w6.cell? ⟨gb248, 0, none⟩ = some (.int .i64 a0_0) := (blk_cell BK248.out 0).trans rfl; have hcz8_1 : w6.cell? ⟨gb248, 1, none⟩ = some (.int .i64 a0_1) := (blk_cell BK248.out 1).trans rfl; have hcz8_2 : w6.cell? ⟨gb248, 2, none⟩ = some (.string a0_2) := (blk_cell BK248.out 2).trans rfl; have hfz8_0 := blk_frozen BK248.out 0; have hfz8_1 := blk_frozen BK248.out 1; have hfz8_2 := blk_frozen BK248.out 2) | ((with_reducible refine gate_callee (f := 35) rfl ?_); refine goesL_ (some 6) rfl rfl Tryd.func35 (by kernel_rfl) rfl #[.agg #[.int .i64 a0_0, .int .i64 a0_1, .string a0_2]] rfl (by (try simp only [List.map_toArray, List.map_cons, List.map_nil]); first | done | rfl | (simp only [List.length_drop, List.length_take]; rfl)) ?_; (with_reducible refine (value_fault.calls k a0_0 a0_1 a0_2 t250 t251 t252 _ A2.out).mono ?_); rintro e w9 ⟨rfl, hb⟩; refine ⟨_, rfl, ?_⟩; have n0_ := Aside0.mk (blk_below (g := gb248) (o := .cells #[.int .i64 a0_0, .int .i64 a0_1, .string a0_2] 23 (0, 0)) (by (with_reducible repeat (first | refine blk_drewN ?_ _ | refine blk_drew ?_ | refine blk_alloc ?_ _)); exact BK248.out) hb); have n1_ := Aside0.mk (blk_below (g := gb249) (o := .cells #[.int .i64 0, .int .i64 0, .string (⟨#[]⟩ : ByteArray)] 23 (0, 0)) (by (with_reducible repeat (first | refine blk_drewN ?_ _ | refine blk_drew ?_ | refine blk_alloc ?_ _)); exact BK249.out) hb); have n2_ := Aside0.mk (below_step (by repeat (first | (with_reducible first | exact HB.out | apply below_alloc | apply pw_below_drewN | apply below_drew1 | refine below_set ?_ GE248.out | refine below_set ?_ GE249.out) | exact HB.out)) hb); clear BK248; clear BK249; clear HB; have BK248 := n0_; have BK249 := n1_; have HB := n2_; clear n0_ n1_ n2_; (try clear hb); (try clear hb2); (try clear hk); (try clear hi)) | ((with_reducible refine gate_dst (N := 4) rfl ?_); refine box_event ?hg (N := 4) ?hd (cs := #[.int .i64 0, .int .i64 0, .string (⟨#[]⟩ : ByteArray)]) (t := 23) ?hr ?_; (case hd => rfl); (case hg => rfl); (case hr => first | (go_simp; done) | (go_simp; rfl)); intro gb253 hg w10 hbox hb; have n0_ := Aside0.mk (blk_below (g := gb248) (o := .cells #[.int .i64 a0_0, .int .i64 a0_1, .string a0_2] 23 (0, 0)) (by (with_reducible repeat (first | refine blk_drewN ?_ _ | refine blk_drew ?_ | refine blk_alloc ?_ _)); exact BK248.out) hb); have n1_ := Aside0.mk (blk_below (g := gb249) (o := .cells #[.int .i64 0, .int .i64 0, .string (⟨#[]⟩ : ByteArray)] 23 (0, 0)) (by (with_reducible repeat (first | refine blk_drewN ?_ _ | refine blk_drew ?_ | refine blk_alloc ?_ _)); exact BK249.out) hb); have n2_ := Aside0.mk (below_step (by repeat (first | (with_reducible first | exact HB.out | apply below_alloc | apply pw_below_drewN | apply below_drew1 | refine below_set ?_ GE248.out | refine below_set ?_ GE249.out) | exact HB.out)) hb); have n3_ := Aside0.mk (hbox); have n4_ := Aside0.mk ((by rw [hg]; exact (below_size (by repeat (first | (with_reducible first | exact HB.out | apply below_alloc | apply pw_below_drewN | apply below_drew1 | refine below_set ?_ GE248.out | refine below_set ?_ GE249.out) | exact HB.out))) : w.heap.size ≤ gb253)); have n5_ := Aside0.mk ((by rw [hg]; exact (below_size (by repeat (first | (with_reducible first | exact HB.out | apply below_alloc | apply pw_below_drewN | apply below_drew1 | refine below_set ?_ GE248.out | refine below_set ?_ GE249.out) | exact HB.out))) : w.heap.size ≤ gb253)); have n6_ := Aside0.mk ((by rw [hg]; exact Nat.ne_of_lt (blk_lt (g := gb248) (o := .cells #[.int .i64 a0_0, .int .i64 a0_1, .string a0_2] 23 (0, 0)) (by (with_reducible repeat (first | refine blk_drewN ?_ _ | refine blk_drew ?_ | refine blk_alloc ?_ _)); exact BK248.out)) : gb248 ≠ gb253)); have n7_ := Aside0.mk ((by rw [hg]; exact Nat.ne_of_gt (blk_lt (g := gb248) (o := .cells #[.int .i64 a0_0, .int .i64 a0_1, .string a0_2] 23 (0, 0)) (by (with_reducible repeat (first | refine blk_drewN ?_ _ | refine blk_drew ?_ | refine blk_alloc ?_ _)); exact BK248.out)) : gb253 ≠ gb248)); have n8_ := Aside0.mk ((by rw [hg]; exact Nat.ne_of_lt (blk_lt (g := gb249) (o := .cells #[.int .i64 0, .int .i64 0, .string (⟨#[]⟩ : ByteArray)] 23 (0, 0)) (by (with_reducible repeat (first | refine blk_drewN ?_ _ | refine blk_drew ?_ | refine blk_alloc ?_ _)); exact BK249.out)) : gb249 ≠ gb253)); have n9_ := Aside0.mk ((by rw [hg]; exact Nat.ne_of_gt (blk_lt (g := gb249) (o := .cells #[.int .i64 0, .int .i64 0, .string (⟨#[]⟩ : ByteArray)] 23 (0, 0)) (by (with_reducible repeat (first | refine blk_drewN ?_ _ | refine blk_drew ?_ | refine blk_alloc ?_ _)); exact BK249.out)) : gb253 ≠ gb249)); clear BK248; clear BK249; clear HB; have BK248 := n0_; have BK249 := n1_; have HB := n2_; have BK253 := n3_; have GW253 := n4_; have GE253 := n5_; have NB248_253 := n6_; have NB253_248 := n7_; have NB249_253 := n8_; have NB253_249 := n9_; clear n0_ n1_ n2_ n3_ n4_ n5_ n6_ n7_ n8_ n9_; clear hb hbox hg; have hnb11 := NB253_248.out; have hnc11 := NB248_253.out; have hnb12 := NB253_249.out; have hnc12 := NB249_253.out; have hcz13_0 : w10.cell? ⟨gb253, 0, none⟩ = some (.int .i64 0) := (blk_cell BK253.out 0).trans rfl; have hcz13_1 : w10.cell? ⟨gb253, 1, none⟩ = some (.int .i64 0) := (blk_cell BK253.out 1).trans rfl; have hcz13_2 : w10.cell? ⟨gb253, 2, none⟩ = some (.string (⟨#[]⟩ : ByteArray)) := (blk_cell BK253.out 2).trans rfl; have hfz13_0 := blk_frozen BK253.out 0; have hfz13_1 := blk_frozen BK253.out 1; have hfz13_2 := blk_frozen BK253.out 2; have hcz14_0 : w10.cell? ⟨gb248, 0, none⟩ = some (.int .i64 a0_0) := (blk_cell BK248.out 0).trans rfl; have hcz14_1 : w10.cell? ⟨gb248, 1, none⟩ = some (.int .i64 a0_1) := (blk_cell BK248.out 1).trans rfl; have hcz14_2 : w10.cell? ⟨gb248, 2, none⟩ = some (.string a0_2) := (blk_cell BK248.out 2).trans rfl; have hfz14_0 := blk_frozen BK248.out 0; have hfz14_1 := blk_frozen BK248.out 1; have hfz14_2 := blk_frozen BK248.out 2) | ((with_reducible refine gate_callee (f := 26) rfl ?_); refine goesL_ (some 12) rfl rfl Tryd.func26 (by kernel_rfl) rfl #[.agg #[.int .i64 a0_0, .int .i64 a0_1, .string a0_2]] rfl (by (try simp only [List.map_toArray, List.map_cons, List.map_nil]); first | done | rfl | (simp only [List.length_drop, List.length_take]; rfl)) ?_; (with_reducible refine (value_Show.calls a0_0 a0_1 a0_2 t254 _ ?side1 A4.out).mono ?_); (case side1 => exact gl_1_1 (by repeat (first | (with_reducible first | exact HB.out | apply below_alloc | apply pw_below_drewN | apply below_drew1 | refine below_set ?_ GE248.out | refine below_set ?_ GE249.out | refine below_set ?_ GE253.out) | exact HB.out)) hG); rintro e w15 ⟨rfl, hb⟩; refine ⟨_, rfl, ?_⟩; have n0_ := Aside0.mk (blk_below (g := gb248) (o := .cells #[.int .i64 a0_0, .int .i64 a0_1, .string a0_2] 23 (0, 0)) (by (with_reducible repeat (first | refine blk_drewN ?_ _ | refine blk_drew ?_ | refine blk_alloc ?_ _)); refine blk_far ?_ NB248_253.out _; (with_reducible repeat (first | refine blk_drewN ?_ _ | refine blk_drew ?_ | refine blk_alloc ?_ _)); refine blk_far ?_ NB248_253.out _; (with_reducible repeat (first | refine blk_drewN ?_ _ | refine blk_drew ?_ | refine blk_alloc ?_ _)); refine blk_far ?_ NB248_253.out _; (with_reducible repeat (first | refine blk_drewN ?_ _ | refine blk_drew ?_ | refine blk_alloc ?_ _)); exact BK248.out) hb); have n1_ := Aside0.mk (blk_below (g := gb249) (o := .cells #[.int .i64 0, .int .i64 0, .string (⟨#[]⟩ : ByteArray)] 23 (0, 0)) (by (with_reducible repeat (first | refine blk_drewN ?_ _ | refine blk_drew ?_ | refine blk_alloc ?_ _)); refine blk_far ?_ NB249_253.out _; (with_reducible repeat (first | refine blk_drewN ?_ _ | refine blk_drew ?_ | refine blk_alloc ?_ _)); refine blk_far ?_ NB249_253.out _; (with_reducible repeat (first | refine blk_drewN ?_ _ | refine blk_drew ?_ | refine blk_alloc ?_ _)); refine blk_far ?_ NB249_253.out _; (with_reducible repeat (first | refine blk_drewN ?_ _ | refine blk_drew ?_ | refine blk_alloc ?_ _)); exact BK249.out) hb); have n2_ := Aside0.mk (blk_below (g := gb253) (o := .cells #[.int .i64 t250, .int .i64 t251, .string t252] 23 (0, 0)) (by (with_reducible repeat (first | refine blk_drewN ?_ _ | refine blk_drew ?_ | refine blk_alloc ?_ _)); refine blk_put (cs := #[.int .i64 t250, .int .i64 t251, .string (⟨#[]⟩ : ByteArray)]) ?_ 2 _ rfl; (with_reducible repeat (first | refine blk_drewN ?_ _ | refine blk_drew ?_ | refine blk_alloc ?_ _)); refine blk_put (cs := #[.int .i64 t250, .int .i64 0, .string (⟨#[]⟩ : ByteArray)]) ?_ 1 _ rfl; (with_reducible repeat (first | refine blk_drewN ?_ _ | refine blk_drew ?_ | refine blk_alloc ?_ _)); refine blk_put (cs := #[.int .i64 0, .int .i64 0, .string (⟨#[]⟩ : ByteArray)]) ?_ 0 _ rfl; (with_reducible repeat (first | refine blk_drewN ?_ _ | refine blk_drew ?_ | refine blk_alloc ?_ _)); exact BK253.out) hb); have n3_ := Aside0.mk (below_step (by repeat (first | (with_reducible first | exact HB.out | apply below_alloc | apply pw_below_drewN | apply below_drew1 | refine below_set ?_ GE248.out | refine below_set ?_ GE249.out | refine below_set ?_ GE253.out) | exact HB.out)) hb); clear BK248; clear BK249; clear BK253; clear HB; have BK248 := n0_; have BK249 := n1_; have BK253 := n2_; have HB := n3_; clear n0_ n1_ n2_ n3_; (try clear hb); (try clear hb2); (try clear hk); (try clear hi); have hcz16_0 : w15.cell? ⟨gb249, 0, none⟩ = some (.int .i64 0) := (blk_cell BK249.out 0).trans rfl; have hcz16_1 : w15.cell? ⟨gb249, 1, none⟩ = some (.int .i64 0) := (blk_cell BK249.out 1).trans rfl; have hcz16_2 : w15.cell? ⟨gb249, 2, none⟩ = some (.string (⟨#[]⟩ : ByteArray)) := (blk_cell BK249.out 2).trans rfl; have hfz16_0 := blk_frozen BK249.out 0; have hfz16_1 := blk_frozen BK249.out 1; have hfz16_2 := blk_frozen BK249.out 2))
    refine bodyPost_ret (results_tc rfl _ _ gb249 23 #[.int .i64 0, .int .i64 0, .string (⟨#[]⟩ : ByteArray)] (0, 0) _ rfl (by (with_reducible repeat (first | refine blk_drewN ?_ _ | refine blk_drew ?_ | refine blk_alloc ?_ _)); refine blk_put (cs := #[.int .i64 0, .int .i64 0, .string (⟨#[]⟩ : ByteArray)]) ?_ 2 _ rfl; (with_reducible repeat (first | refine blk_drewN ?_ _ | refine blk_drew ?_ | refine blk_alloc ?_ _)); refine blk_put (cs := #[.int .i64 0, .int .i64 0, .string (⟨#[]⟩ : ByteArray)]) ?_ 1 _ rfl; (with_reducible repeat (first | refine blk_drewN ?_ _ | refine blk_drew ?_ | refine blk_alloc ?_ _)); refine blk_put (cs := #[.int .i64 0, .int .i64 0, .string (⟨#[]⟩ : ByteArray)]) ?_ 0 _ rfl; (with_reducible repeat (first | refine blk_drewN ?_ _ | refine blk_drew ?_ | refine blk_alloc ?_ _)); exact BK249.out) Tryd.underlying23 rfl (by kernel_rfl)) rfl ?_
    exact ⟨by first | rfl | (simp [errW_none, errW_some] <;> rfl) | (simp [*, errW_none, errW_some] <;> rfl), by repeat (first | (with_reducible first | exact HB.out | apply below_alloc | apply pw_below_drewN | apply below_drew1 | refine below_set ?_ GE248.out | refine below_set ?_ GE249.out | refine below_set ?_ GE253.out) | exact HB.out)⟩
  · rw [if_neg c3] at H
    have c3b0 : (t250 == 0) = false := beq_eq_false_iff_ne.mpr c3
    have c3b1 : (t250 != 0) = true := bne_iff_ne.mpr c3
    simp only [Option.some.injEq, Prod.mk.injEq] at H
    obtain ⟨rfl, rfl, rfl, rfl⟩ := H
    go_enter Tryd.func22, Tryd.ntmps22
    try go_wp2_with (first | ((with_reducible refine gate_dst (N := 1) rfl ?_); refine box_event ?hg (N := 1) ?hd (cs := #[.int .i64 a0_0, .int .i64 a0_1, .string a0_2]) (t := 23) ?hr ?_; (case hd => rfl); (case hg => rfl); (case hr => first | (go_simp; done) | (go_simp; rfl)); intro gb248 hg w17 hbox hb; have n0_ := Aside0.mk (below_step (by repeat (first | (with_reducible first | exact HB.out | apply below_alloc | apply pw_below_drewN | apply below_drew1) | exact HB.out)) hb); have n1_ := Aside0.mk (hbox); have n2_ := Aside0.mk ((by rw [hg]; exact (below_size (by repeat (first | (with_reducible first | exact HB.out | apply below_alloc | apply pw_below_drewN | apply below_drew1) | exact HB.out))) : w.heap.size ≤ gb248)); have n3_ := Aside0.mk ((by rw [hg]; exact (below_size (by repeat (first | (with_reducible first | exact HB.out | apply below_alloc | apply pw_below_drewN | apply below_drew1) | exact HB.out))) : w.heap.size ≤ gb248)); clear HB; have HB := n0_; have BK248 := n1_; have GW248 := n2_; have GE248 := n3_; clear n0_ n1_ n2_ n3_; clear hb hbox hg) | ((with_reducible refine gate_dst (N := 3) rfl ?_); refine box_event ?hg (N := 3) ?hd (cs := #[.int .i64 0, .int .i64 0, .string (⟨#[]⟩ : ByteArray)]) (t := 23) ?hr ?_; (case hd => rfl); (case hg => rfl); (case hr => first | (go_simp; done) | (go_simp; rfl)); intro gb249 hg w18 hbox hb; have n0_ := Aside0.mk (blk_below (g := gb248) (o := .cells #[.int .i64 a0_0, .int .i64 a0_1, .string a0_2] 23 (0, 0)) (by (with_reducible repeat (first | refine blk_drewN ?_ _ | refine blk_drew ?_ | refine blk_alloc ?_ _)); exact BK248.out) hb); have n1_ := Aside0.mk (below_step (by repeat (first | (with_reducible first | exact HB.out | apply below_alloc | apply pw_below_drewN | apply below_drew1 | refine below_set ?_ GE248.out) | exact HB.out)) hb); have n2_ := Aside0.mk (hbox); have n3_ := Aside0.mk ((by rw [hg]; exact (below_size (by repeat (first | (with_reducible first | exact HB.out | apply below_alloc | apply pw_below_drewN | apply below_drew1 | refine below_set ?_ GE248.out) | exact HB.out))) : w.heap.size ≤ gb249)); have n4_ := Aside0.mk ((by rw [hg]; exact (below_size (by repeat (first | (with_reducible first | exact HB.out | apply below_alloc | apply pw_below_drewN | apply below_drew1 | refine below_set ?_ GE248.out) | exact HB.out))) : w.heap.size ≤ gb249)); have n5_ := Aside0.mk ((by rw [hg]; exact Nat.ne_of_lt (blk_lt (g := gb248) (o := .cells #[.int .i64 a0_0, .int .i64 a0_1, .string a0_2] 23 (0, 0)) (by (with_reducible repeat (first | refine blk_drewN ?_ _ | refine blk_drew ?_ | refine blk_alloc ?_ _)); exact BK248.out)) : gb248 ≠ gb249)); have n6_ := Aside0.mk ((by rw [hg]; exact Nat.ne_of_gt (blk_lt (g := gb248) (o := .cells #[.int .i64 a0_0, .int .i64 a0_1, .string a0_2] 23 (0, 0)) (by (with_reducible repeat (first | refine blk_drewN ?_ _ | refine blk_drew ?_ | refine blk_alloc ?_ _)); exact BK248.out)) : gb249 ≠ gb248)); clear BK248; clear HB; have BK248 := n0_; have HB := n1_; have BK249 := n2_; have GW249 := n3_; have GE249 := n4_; have NB248_249 := n5_; have NB249_248 := n6_; clear n0_ n1_ n2_ n3_ n4_ n5_ n6_; clear hb hbox hg; have hnb19 := NB248_249.out; have hnc19 := NB249_248.out; have hcz20_0 : w18.cell? ⟨gb248, 0, none⟩ = some (.int .i64 a0_0) := (blk_cell BK248.out 0).trans rfl; have hcz20_1 : w18.cell? ⟨gb248, 1, none⟩ = some (.int .i64 a0_1) := (blk_cell BK248.out 1).trans rfl; have hcz20_2 : w18.cell? ⟨gb248, 2, none⟩ = some (.string a0_2) := (blk_cell BK248.out 2).trans rfl; have hfz20_0 := blk_frozen BK248.out 0; have hfz20_1 := blk_frozen BK248.out 1; have hfz20_2 := blk_frozen BK248.out 2) | ((with_reducible refine gate_callee (f := 35) rfl ?_); refine goesL_ (some 6) rfl rfl Tryd.func35 (by kernel_rfl) rfl #[.agg #[.int .i64 a0_0, .int .i64 a0_1, .string a0_2]] rfl (by (try simp only [List.map_toArray, List.map_cons, List.map_nil]); first | done | rfl | (simp only [List.length_drop, List.length_take]; rfl)) ?_; (with_reducible refine (value_fault.calls k a0_0 a0_1 a0_2 t250 t251 t252 _ A2.out).mono ?_); rintro e w21 ⟨rfl, hb⟩; refine ⟨_, rfl, ?_⟩; have n0_ := Aside0.mk (blk_below (g := gb248) (o := .cells #[.int .i64 a0_0, .int .i64 a0_1, .string a0_2] 23 (0, 0)) (by (with_reducible repeat (first | refine blk_drewN ?_ _ | refine blk_drew ?_ | refine blk_alloc ?_ _)); exact BK248.out) hb); have n1_ := Aside0.mk (blk_below (g := gb249) (o := .cells #[.int .i64 0, .int .i64 0, .string (⟨#[]⟩ : ByteArray)] 23 (0, 0)) (by (with_reducible repeat (first | refine blk_drewN ?_ _ | refine blk_drew ?_ | refine blk_alloc ?_ _)); exact BK249.out) hb); have n2_ := Aside0.mk (below_step (by repeat (first | (with_reducible first | exact HB.out | apply below_alloc | apply pw_below_drewN | apply below_drew1 | refine below_set ?_ GE248.out | refine below_set ?_ GE249.out) | exact HB.out)) hb); clear BK248; clear BK249; clear HB; have BK248 := n0_; have BK249 := n1_; have HB := n2_; clear n0_ n1_ n2_; (try clear hb); (try clear hb2); (try clear hk); (try clear hi)) | ((with_reducible refine gate_dst (N := 4) rfl ?_); refine box_event ?hg (N := 4) ?hd (cs := #[.int .i64 0, .int .i64 0, .string (⟨#[]⟩ : ByteArray)]) (t := 23) ?hr ?_; (case hd => rfl); (case hg => rfl); (case hr => first | (go_simp; done) | (go_simp; rfl)); intro gb253 hg w22 hbox hb; have n0_ := Aside0.mk (blk_below (g := gb248) (o := .cells #[.int .i64 a0_0, .int .i64 a0_1, .string a0_2] 23 (0, 0)) (by (with_reducible repeat (first | refine blk_drewN ?_ _ | refine blk_drew ?_ | refine blk_alloc ?_ _)); exact BK248.out) hb); have n1_ := Aside0.mk (blk_below (g := gb249) (o := .cells #[.int .i64 0, .int .i64 0, .string (⟨#[]⟩ : ByteArray)] 23 (0, 0)) (by (with_reducible repeat (first | refine blk_drewN ?_ _ | refine blk_drew ?_ | refine blk_alloc ?_ _)); exact BK249.out) hb); have n2_ := Aside0.mk (below_step (by repeat (first | (with_reducible first | exact HB.out | apply below_alloc | apply pw_below_drewN | apply below_drew1 | refine below_set ?_ GE248.out | refine below_set ?_ GE249.out) | exact HB.out)) hb); have n3_ := Aside0.mk (hbox); have n4_ := Aside0.mk ((by rw [hg]; exact (below_size (by repeat (first | (with_reducible first | exact HB.out | apply below_alloc | apply pw_below_drewN | apply below_drew1 | refine below_set ?_ GE248.out | refine below_set ?_ GE249.out) | exact HB.out))) : w.heap.size ≤ gb253)); have n5_ := Aside0.mk ((by rw [hg]; exact (below_size (by repeat (first | (with_reducible first | exact HB.out | apply below_alloc | apply pw_below_drewN | apply below_drew1 | refine below_set ?_ GE248.out | refine below_set ?_ GE249.out) | exact HB.out))) : w.heap.size ≤ gb253)); have n6_ := Aside0.mk ((by rw [hg]; exact Nat.ne_of_lt (blk_lt (g := gb248) (o := .cells #[.int .i64 a0_0, .int .i64 a0_1, .string a0_2] 23 (0, 0)) (by (with_reducible repeat (first | refine blk_drewN ?_ _ | refine blk_drew ?_ | refine blk_alloc ?_ _)); exact BK248.out)) : gb248 ≠ gb253)); have n7_ := Aside0.mk ((by rw [hg]; exact Nat.ne_of_gt (blk_lt (g := gb248) (o := .cells #[.int .i64 a0_0, .int .i64 a0_1, .string a0_2] 23 (0, 0)) (by (with_reducible repeat (first | refine blk_drewN ?_ _ | refine blk_drew ?_ | refine blk_alloc ?_ _)); exact BK248.out)) : gb253 ≠ gb248)); have n8_ := Aside0.mk ((by rw [hg]; exact Nat.ne_of_lt (blk_lt (g := gb249) (o := .cells #[.int .i64 0, .int .i64 0, .string (⟨#[]⟩ : ByteArray)] 23 (0, 0)) (by (with_reducible repeat (first | refine blk_drewN ?_ _ | refine blk_drew ?_ | refine blk_alloc ?_ _)); exact BK249.out)) : gb249 ≠ gb253)); have n9_ := Aside0.mk ((by rw [hg]; exact Nat.ne_of_gt (blk_lt (g := gb249) (o := .cells #[.int .i64 0, .int .i64 0, .string (⟨#[]⟩ : ByteArray)] 23 (0, 0)) (by (with_reducible repeat (first | refine blk_drewN ?_ _ | refine blk_drew ?_ | refine blk_alloc ?_ _)); exact BK249.out)) : gb253 ≠ gb249)); clear BK248; clear BK249; clear HB; have BK248 := n0_; have BK249 := n1_; have HB := n2_; have BK253 := n3_; have GW253 := n4_; have GE253 := n5_; have NB248_253 := n6_; have NB253_248 := n7_; have NB249_253 := n8_; have NB253_249 := n9_; clear n0_ n1_ n2_ n3_ n4_ n5_ n6_ n7_ n8_ n9_; clear hb hbox hg; have hnb23 := NB253_248.out; have hnc23 := NB248_253.out; have hnb24 := NB253_249.out; have hnc24 := NB249_253.out; have hcz25_0 : w22.cell? ⟨gb253, 0, none⟩ = some (.int .i64 0) := (blk_cell BK253.out 0).trans rfl; have hcz25_1 : w22.cell? ⟨gb253, 1, none⟩ = some (.int .i64 0) := (blk_cell BK253.out 1).trans rfl; have hcz25_2 : w22.cell? ⟨gb253, 2, none⟩ = some (.string (⟨#[]⟩ : ByteArray)) := (blk_cell BK253.out 2).trans rfl; have hfz25_0 := blk_frozen BK253.out 0; have hfz25_1 := blk_frozen BK253.out 1; have hfz25_2 := blk_frozen BK253.out 2))
    have n0_ : Aside0 ((((w22.setCell ⟨gb253, 0, none⟩ (.int .i64 t250)).setCell ⟨gb253, 1, none⟩ (.int .i64 t251)).setCell ⟨gb253, 2, none⟩ (.string t252)).heap[gb248]? = some (.cells #[.int .i64 a0_0, .int .i64 a0_1, .string a0_2] 23 (0, 0))) := ⟨by (with_reducible repeat (first | refine blk_drewN ?_ _ | refine blk_drew ?_ | refine blk_alloc ?_ _)); refine blk_far ?_ NB248_253.out _; (with_reducible repeat (first | refine blk_drewN ?_ _ | refine blk_drew ?_ | refine blk_alloc ?_ _)); refine blk_far ?_ NB248_253.out _; (with_reducible repeat (first | refine blk_drewN ?_ _ | refine blk_drew ?_ | refine blk_alloc ?_ _)); refine blk_far ?_ NB248_253.out _; (with_reducible repeat (first | refine blk_drewN ?_ _ | refine blk_drew ?_ | refine blk_alloc ?_ _)); exact BK248.out⟩
    have n1_ : Aside0 ((((w22.setCell ⟨gb253, 0, none⟩ (.int .i64 t250)).setCell ⟨gb253, 1, none⟩ (.int .i64 t251)).setCell ⟨gb253, 2, none⟩ (.string t252)).heap[gb249]? = some (.cells #[.int .i64 0, .int .i64 0, .string (⟨#[]⟩ : ByteArray)] 23 (0, 0))) := ⟨by (with_reducible repeat (first | refine blk_drewN ?_ _ | refine blk_drew ?_ | refine blk_alloc ?_ _)); refine blk_far ?_ NB249_253.out _; (with_reducible repeat (first | refine blk_drewN ?_ _ | refine blk_drew ?_ | refine blk_alloc ?_ _)); refine blk_far ?_ NB249_253.out _; (with_reducible repeat (first | refine blk_drewN ?_ _ | refine blk_drew ?_ | refine blk_alloc ?_ _)); refine blk_far ?_ NB249_253.out _; (with_reducible repeat (first | refine blk_drewN ?_ _ | refine blk_drew ?_ | refine blk_alloc ?_ _)); exact BK249.out⟩
    have n2_ : Aside0 ((((w22.setCell ⟨gb253, 0, none⟩ (.int .i64 t250)).setCell ⟨gb253, 1, none⟩ (.int .i64 t251)).setCell ⟨gb253, 2, none⟩ (.string t252)).heap[gb253]? = some (.cells #[.int .i64 t250, .int .i64 t251, .string t252] 23 (0, 0))) := ⟨by (with_reducible repeat (first | refine blk_drewN ?_ _ | refine blk_drew ?_ | refine blk_alloc ?_ _)); refine blk_put (cs := #[.int .i64 t250, .int .i64 t251, .string (⟨#[]⟩ : ByteArray)]) ?_ 2 _ rfl; (with_reducible repeat (first | refine blk_drewN ?_ _ | refine blk_drew ?_ | refine blk_alloc ?_ _)); refine blk_put (cs := #[.int .i64 t250, .int .i64 0, .string (⟨#[]⟩ : ByteArray)]) ?_ 1 _ rfl; (with_reducible repeat (first | refine blk_drewN ?_ _ | refine blk_drew ?_ | refine blk_alloc ?_ _)); refine blk_put (cs := #[.int .i64 0, .int .i64 0, .string (⟨#[]⟩ : ByteArray)]) ?_ 0 _ rfl; (with_reducible repeat (first | refine blk_drewN ?_ _ | refine blk_drew ?_ | refine blk_alloc ?_ _)); exact BK253.out⟩
    have n3_ : Aside0 (Below w.heap.size w (((w22.setCell ⟨gb253, 0, none⟩ (.int .i64 t250)).setCell ⟨gb253, 1, none⟩ (.int .i64 t251)).setCell ⟨gb253, 2, none⟩ (.string t252))) := ⟨by repeat (first | (with_reducible first | exact HB.out | apply below_alloc | apply pw_below_drewN | apply below_drew1 | refine below_set ?_ GE248.out | refine below_set ?_ GE249.out | refine below_set ?_ GE253.out) | exact HB.out)⟩
    (try clear BK248)
    (try clear BK249)
    (try clear BK253)
    (try clear HB)
    generalize (((w22.setCell ⟨gb253, 0, none⟩ (.int .i64 t250)).setCell ⟨gb253, 1, none⟩ (.int .i64 t251)).setCell ⟨gb253, 2, none⟩ (.string t252)) = w26 at n0_ n1_ n2_ n3_ ⊢
    have BK248 := n0_
    have BK249 := n1_
    have BK253 := n2_
    have HB := n3_
    clear n0_ n1_ n2_ n3_
    have n0_ := Aside0.mk (blk_drew BK248.out)
    have n1_ := Aside0.mk (blk_drew BK249.out)
    have n2_ := Aside0.mk (blk_drew BK253.out)
    have n3_ := Aside0.mk (below_drew1 HB.out)
    clear BK248
    clear BK249
    clear BK253
    clear HB
    have BK248 := n0_
    have BK249 := n1_
    have BK253 := n2_
    have HB := n3_
    clear n0_ n1_ n2_ n3_
    refine start_ (n := 3) (S := fun w' => w'.cell? ⟨gb253, 0, none⟩ = some (.int .i64 t250) ∧ w'.cell? ⟨gb253, 1, none⟩ = some (.int .i64 t251) ∧ w'.cell? ⟨gb253, 2, none⟩ = some (.string t252)) (ds := []) #[false, false, false] (by kernel_rfl) rfl rfl ⟨(blk_cell BK253.out 0).trans rfl, (blk_cell BK253.out 1).trans rfl, (blk_cell BK253.out 2).trans rfl⟩ (fun hHeld => ?_)
    generalize w26.drew = w27 at BK248 BK249 BK253 HB hHeld ⊢
    refine pure_ (i := 1) (N := some 2) (v := ?_) (a' := ?_) #[false, true, false] rfl rfl (by kernel_rfl) (fun _ _ _ h => h) (Or.inl ⟨by rfl, ?_⟩) ?_ ?_
    rotate_left
    · intro w'
      go_simp
      with_reducible rfl
    rotate_left
    · simp only [Act.put, List.setIfInBounds_toArray, List.set_cons_zero, List.set_cons_succ, i64_w, i32_w]
      rfl
    refine take_ (i := 0) (N := some 10) (v := ?_) (a' := ?_) #[true, true, false] rfl rfl (by kernel_rfl) (fun _ _ _ h => h) (Or.inl ⟨by rfl, ?_⟩) hHeld ?_ ?_
    rotate_left
    · rintro w' ⟨s0, s1, s2⟩
      go_simp
      with_reducible rfl
    rotate_left
    · simp only [Act.put, List.setIfInBounds_toArray, List.set_cons_zero, List.set_cons_succ, i64_w, i32_w]
      rfl
    refine one_ (i := 2) (N := none) #[true, true, true] rfl rfl (by kernel_rfl) (by decide) (fun K hK => ?_)
    have hs28 : w27.cell? ⟨gb249, 0, none⟩ = some (.int .i64 0) := (blk_cell BK249.out 0).trans rfl
    have hfs28 := blk_frozen BK249.out 0
    have hns28_0 := NB248_249.out
    have hns28_2 := NB253_249.out
    have hms28_0 := NB249_248.out
    have hms28_2 := NB249_253.out
    have hs29 : w27.cell? ⟨gb249, 1, none⟩ = some (.int .i64 0) := (blk_cell BK249.out 1).trans rfl
    have hfs29 := blk_frozen BK249.out 1
    have hns29_0 := NB248_249.out
    have hns29_2 := NB253_249.out
    have hms29_0 := NB249_248.out
    have hms29_2 := NB249_253.out
    have hs30 : w27.cell? ⟨gb249, 2, none⟩ = some (.string (⟨#[]⟩ : ByteArray)) := (blk_cell BK249.out 2).trans rfl
    have hfs30 := blk_frozen BK249.out 2
    have hns30_0 := NB248_249.out
    have hns30_2 := NB253_249.out
    have hms30_0 := NB249_248.out
    have hms30_2 := NB249_253.out
    refine skip_ (w1 := ?_) (by rfl) rfl ?_ ?_
    rotate_left
    · go_simp
      rfl
    refine hK.out _ _ ⟨((cell_far (p := ⟨gb249, _, none⟩) NB253_249.out _).trans (((cell_far (p := ⟨gb249, _, none⟩) NB253_249.out _).trans (((cell_far (p := ⟨gb249, _, none⟩) NB253_249.out _).trans (hHeld.1)))))), ((cell_far (p := ⟨gb249, _, none⟩) NB253_249.out _).trans (((cell_far (p := ⟨gb249, _, none⟩) NB253_249.out _).trans (((cell_far (p := ⟨gb249, _, none⟩) NB253_249.out _).trans (hHeld.2.1)))))), ((cell_far (p := ⟨gb249, _, none⟩) NB253_249.out _).trans (((cell_far (p := ⟨gb249, _, none⟩) NB253_249.out _).trans (((cell_far (p := ⟨gb249, _, none⟩) NB253_249.out _).trans (hHeld.2.2))))))⟩ (fun hHeld => ?_)
    clear hK K
    refine done_ (by kernel_rfl) ?_
    try go_wp2
    refine bodyPost_ret (results_tc rfl _ _ gb249 23 #[.int .i64 t250, .int .i64 t251, .string t252] (0, 0) _ rfl (by (with_reducible repeat (first | refine blk_drewN ?_ _ | refine blk_drew ?_ | refine blk_alloc ?_ _)); refine blk_put (cs := #[.int .i64 t250, .int .i64 t251, .string (⟨#[]⟩ : ByteArray)]) ?_ 2 _ rfl; (with_reducible repeat (first | refine blk_drewN ?_ _ | refine blk_drew ?_ | refine blk_alloc ?_ _)); refine blk_put (cs := #[.int .i64 t250, .int .i64 0, .string (⟨#[]⟩ : ByteArray)]) ?_ 1 _ rfl; (with_reducible repeat (first | refine blk_drewN ?_ _ | refine blk_drew ?_ | refine blk_alloc ?_ _)); refine blk_put (cs := #[.int .i64 0, .int .i64 0, .string (⟨#[]⟩ : ByteArray)]) ?_ 0 _ rfl; (with_reducible repeat (first | refine blk_drewN ?_ _ | refine blk_drew ?_ | refine blk_alloc ?_ _)); exact BK249.out) Tryd.underlying23 rfl (by kernel_rfl)) rfl ?_
    exact ⟨by first | rfl | (simp [errW_none, errW_some] <;> rfl) | (simp [*, errW_none, errW_some] <;> rfl), by repeat (first | (with_reducible first | exact HB.out | apply below_alloc | apply pw_below_drewN | apply below_drew1 | refine below_set ?_ GE248.out | refine below_set ?_ GE249.out | refine below_set ?_ GE253.out) | exact HB.out)⟩

end Go.Proofs.YtkjfcepggpdokaaRRRRDoor.P

/- Values: good ones, alike ones, what they come to as a text, a number, a truth. -/
namespace Go.Proofs.YtkjfcepggpdokaaRRRRDoor.P
open Go.RowKit Go.Proofs.YtkjfcepggpdokaaRRRRDoorW.PrintWords Go.Proofs.YtkjfcepggpdokaaRRRRDoorW.PrintLast Go.Proofs.YtkjfcepggpdokaaRRRRDoorW.PrintMore
open M (fit I64 u64w dig itoaF)
set_option linter.unusedVariables false
set_option linter.unusedSimpArgs false

def noB : ByteArray := ⟨#[]⟩
theorem noB_list : noB.toList = [] := by rw [ByteArray.toList_eq]; rfl
def goodB (k n : Int) (s : ByteArray) : Bool := (value_Good.f k n s).getD false
theorem vgood_eq (k n : Int) (s : ByteArray) : value_Good.f k n s = some (goodB k n s) := by
  unfold goodB value_Good.f
  repeat' split
  all_goals rfl
def sameB (k n : Int) (s : ByteArray) (k' n' : Int) (s' : ByteArray) : Bool := decide (k = k') && decide (n = n') && (s.toList == s'.toList)
theorem same_eq (k n : Int) (s : ByteArray) (k' n' : Int) (s' : ByteArray) : value_Same.f k n s k' n' s' = some (sameB k n s k' n' s') := by
  unfold value_Same.f sameB
  by_cases h1 : k = k' <;> by_cases h2 : n = n' <;> simp [h1, h2]
theorem same_self (k n : Int) (s : ByteArray) : sameB k n s k n s = true := by unfold sameB; simp
theorem vfail_eq {n : Int} (h0 : 1 ≤ n) (h1 : n ≤ 8) : value_Fail.f n = some (4, n, noB) := by
  unfold value_Fail.f; rw [if_neg (by omega), if_neg (by omega)]; rfl
theorem vof_eq (s : ByteArray) : value_Of.f s = some (if s.size ≤ 200 then (3, 0, s) else (4, 7, noB)) := by
  unfold value_Of.f
  by_cases h : s.size ≤ 200
  · rw [if_neg (by omega), if_pos h]
  · rw [if_pos (by omega), if_neg h, vfail_eq (by omega) (by omega)]; rfl
theorem bytes_eq {s t : ByteArray} (h : s.toList = t.toList) : s = t := by
  rw [ByteArray.toList_eq, ByteArray.toList_eq] at h
  exact ByteArray.ext (Array.toList_inj.1 h)
/-- What a good value is. -/
theorem good_cases {k n : Int} {s : ByteArray} (h : goodB k n s = true) : (k = 0 ∧ n = 0 ∧ s = noB) ∨ (k = 1 ∧ (n = 0 ∨ n = 1) ∧ s = noB) ∨ (k = 2 ∧ s = noB) ∨ (k = 3 ∧ n = 0 ∧ s.size ≤ 200) ∨ (k = 4 ∧ 1 ≤ n ∧ n ≤ 8 ∧ s = noB) := by
  have hb : (s.toList == ([] : List UInt8)) = true → s = noB := fun h => bytes_eq (by rw [noB_list]; simpa using h)
  have hg := vgood_eq k n s
  rw [h] at hg
  unfold value_Good.f at hg
  split at hg
  · rename_i e; subst e
    split at hg
    · rename_i e; exact .inl ⟨rfl, e, hb (by simpa using hg)⟩
    · simp at hg
  · split at hg
    · rename_i e; subst e
      split at hg
      · rename_i e; exact .inr (.inl ⟨rfl, .inl e, hb (by simpa using hg)⟩)
      · split at hg
        · rename_i e; exact .inr (.inl ⟨rfl, .inr e, hb (by simpa using hg)⟩)
        · simp at hg
    · split at hg
      · rename_i e; exact .inr (.inr (.inl ⟨e, hb (by simpa using hg)⟩))
      · split at hg
        · rename_i e
          split at hg
          · rename_i e'; simp at hg; exact .inr (.inr (.inr (.inl ⟨e, e', by omega⟩)))
          · simp at hg
        · split at hg
          · rename_i e
            split at hg
            · split at hg
              · rename_i e1 e2; exact .inr (.inr (.inr (.inr ⟨e, e1, e2, hb (by simpa using hg)⟩)))
              · simp at hg
            · simp at hg
          · simp at hg
theorem good_text {s : ByteArray} (h : s.size ≤ 200) : goodB 3 0 s = true := by
  have := vgood_eq 3 0 s
  unfold value_Good.f at this
  simp at this
  rw [← this]; simp; omega
theorem good_fault {n : Int} (h0 : 1 ≤ n) (h1 : n ≤ 8) : goodB 4 n noB = true := by
  have := vgood_eq 4 n noB
  unfold value_Good.f at this
  simp [h0, h1, noB_list] at this
  exact this
theorem good_int (n : Int) : goodB 2 n noB = true := by
  have := vgood_eq 2 n noB
  unfold value_Good.f at this
  simp [noB_list] at this; exact this
theorem good_bool0 : goodB 1 0 noB = true := by decide +kernel
theorem good_bool1 : goodB 1 1 noB = true := by decide +kernel
/-- A value's hindrance. -/
def faultV (k n : Int) (s : ByteArray) : Int × Int × ByteArray := if goodB k n s = true then (if k = 4 then (k, n, s) else (0, 0, noB)) else (4, 3, noB)
theorem fault_eq (k : Nat) (hk : 1 ≤ k) (t n : Int) (s : ByteArray) : value_fault.f k t n s = some (faultV t n s) := by
  obtain ⟨k, rfl⟩ : ∃ m, k = m + 1 := ⟨k - 1, by omega⟩
  unfold value_fault.f faultV
  by_cases h4 : t = 4
  · rw [if_pos h4, vgood_eq, Option.bind_some, value_fault.j0]
    by_cases hg : goodB t n s = true
    · rw [if_pos hg, if_pos hg, if_pos h4]
    · rw [if_neg hg, if_neg hg, vgood_eq, Option.bind_some, if_neg hg, vfail_eq (by omega) (by omega)]; rfl
  · rw [if_neg h4, value_fault.j0, if_neg (by simp), vgood_eq, Option.bind_some]
    by_cases hg : goodB t n s = true
    · rw [if_pos hg, if_pos hg, if_neg h4]; rfl
    · rw [if_neg hg, if_neg hg, vfail_eq (by omega) (by omega)]; rfl
theorem wakes03 (k : Nat) (hk : 100 ≤ k) : pannierlaw03_wakes.f k = some true :=
  at_rounds pannierlaw03_wakes.mono hk (by decide +kernel)
end Go.Proofs.YtkjfcepggpdokaaRRRRDoor.P

/- The order of values. -/
namespace Go.Proofs.YtkjfcepggpdokaaRRRRDoor.P
open Go.RowKit Go.Proofs.YtkjfcepggpdokaaRRRRDoorW.PrintWords Go.Proofs.YtkjfcepggpdokaaRRRRDoorW.PrintLast Go.Proofs.YtkjfcepggpdokaaRRRRDoorW.PrintMore
open M (fit I64 u64w dig itoaF)
set_option linter.unusedVariables false
set_option linter.unusedSimpArgs false

def sgn (a b : Int) : Int := if a < b then -1 else if a > b then 1 else 0
theorem cmp_int_eq (a b : Int) : cmp_Compare_int.f a b = some (sgn a b) := by
  unfold cmp_Compare_int.f cmp_isNaN_int.f sgn
  simp only [bne_self_eq_false, Option.bind_some, Bool.false_eq_true, if_false]
  split
  · rfl
  · split <;> rfl
theorem cmp_int64_eq (a b : Int) : cmp_Compare_int64.f a b = some (sgn a b) := by
  unfold cmp_Compare_int64.f cmp_isNaN_int64.f sgn
  simp only [bne_self_eq_false, Option.bind_some, Bool.false_eq_true, if_false]
  split
  · rfl
  · split <;> rfl
def or3 (a b c : Int) : Int := if a = 0 then (if b = 0 then c else b) else a
theorem or3_eq (k : Nat) (hk : 5 ≤ k) (a b c : Int) : cmp_Or_int.f k [a, b, c] = some (or3 a b c) := by
  obtain ⟨k, rfl⟩ : ∃ m, k = m + 4 := ⟨k - 4, by omega⟩
  have w1 : wrap64 (1 : Int) = 1 := by unfold wrap64; decide
  have w2 : wrap64 (2 : Int) = 2 := by unfold wrap64; decide
  have w3 : wrap64 (3 : Int) = 3 := by unfold wrap64; decide
  unfold cmp_Or_int.f or3
  by_cases ha : a = 0 <;> by_cases hb : b = 0 <;> by_cases hc : c = 0 <;> simp [cmp_Or_int.l0, rd, w1, w2, w3, ha, hb, hc]
def rankV (k : Int) : Int := if k = 1 then 3 else if k = 3 then 2 else if k = 2 then 1 else 0
theorem rank_eq (k n : Int) (s : ByteArray) : value_rank.f k n s = some (rankV k) := by
  unfold value_rank.f rankV
  split
  · rfl
  · split
    · rfl
    · split <;> rfl
def cmpV (k n : Int) (s : ByteArray) (k' n' : Int) (s' : ByteArray) : Int := or3 (sgn (rankV k) (rankV k')) (sgn n n') (Lib.compareBytes s.data.toList s'.data.toList)
def mayV (k n : Int) (s : ByteArray) : Bool := goodB k n s && decide (k ≠ 4)
def compareV (k n : Int) (s : ByteArray) (k' n' : Int) (s' : ByteArray) : Int × Bool := if mayV k n s = true ∧ mayV k' n' s' = true then (cmpV k n s k' n' s', true) else (0, false)
theorem vcompare_eq (r : Nat) (hr : 6 ≤ r) (k n : Int) (s : ByteArray) (k' n' : Int) (s' : ByteArray) : value_Compare.f r k n s k' n' s' = some (compareV k n s k' n' s') := by
  obtain ⟨r, rfl⟩ : ∃ m, r = m + 1 := ⟨r - 1, by omega⟩
  have no : value_Compare.j0 (r + 1) true k n s k' n' s' = some (0, false) := by rw [value_Compare.j0, if_pos rfl]
  unfold value_Compare.f compareV mayV
  rw [vgood_eq, Option.bind_some, vgood_eq, Option.bind_some]
  by_cases h1 : goodB k n s = true
  · by_cases h2 : goodB k' n' s' = true
    · by_cases h3 : k = 4
      · rw [if_pos h1, if_pos h2, if_pos h3, no, if_neg (by simp [h3])]
      · by_cases h4 : k' = 4
        · rw [if_pos h1, if_pos h2, if_neg h3, show (k' == 4) = true by simp [h4], no, if_neg (by simp [h4])]
        · rw [if_pos h1, if_pos h2, if_neg h3, show (k' == 4) = false by simp [h4], value_Compare.j0, if_neg (by simp), rank_eq, Option.bind_some, rank_eq, Option.bind_some, cmp_int_eq, Option.bind_some, cmp_int64_eq, Option.bind_some]
          unfold strings_Compare.f
          rw [Option.bind_some, or3_eq r (by omega), Option.bind_some, if_pos (by simp [h1, h2, h3, h4])]
          rfl
    · rw [if_pos h1, if_neg h2, no, if_neg (by simp [h2])]
  · rw [if_neg h1, no, if_neg (by simp [h1])]
theorem sgn_turn (a b : Int) : sgn b a = - sgn a b := by unfold sgn; repeat' split <;> omega
theorem sgn_zero (a b : Int) : sgn a b = 0 ↔ a = b := by
  unfold sgn
  split
  · constructor <;> intro h <;> omega
  · split
    · constructor <;> intro h <;> omega
    · constructor <;> intro h <;> omega
theorem sgn_range (a b : Int) : sgn a b = -1 ∨ sgn a b = 0 ∨ sgn a b = 1 := by 
  unfold sgn
  split
  · exact .inl rfl
  · split
    · exact .inr (.inr rfl)
    · exact .inr (.inl rfl)
theorem sgn_le (a b : Int) : sgn a b ≤ 0 ↔ a ≤ b := by
  unfold sgn
  split
  · constructor <;> intro h <;> omega
  · split
    · constructor <;> intro h <;> omega
    · constructor <;> intro h <;> omega
theorem cmpV_turn (k n : Int) (s : ByteArray) (k' n' : Int) (s' : ByteArray) : cmpV k' n' s' k n s = - cmpV k n s k' n' s' := by
  unfold cmpV or3
  rw [sgn_turn (rankV k) (rankV k'), sgn_turn n n', cmp_turn s.data.toList s'.data.toList]
  repeat' split
  all_goals omega
theorem compareV_turn (k n : Int) (s : ByteArray) (k' n' : Int) (s' : ByteArray) : compareV k' n' s' k n s = (-(compareV k n s k' n' s').1, (compareV k n s k' n' s').2) := by
  unfold compareV
  rw [cmpV_turn]
  by_cases h1 : mayV k n s = true <;> by_cases h2 : mayV k' n' s' = true <;> simp [h1, h2]
theorem rank_inj {k k' : Int} (h : k = 0 ∨ k = 1 ∨ k = 2 ∨ k = 3) (h' : k' = 0 ∨ k' = 1 ∨ k' = 2 ∨ k' = 3) : rankV k = rankV k' ↔ k = k' := by
  rcases h with rfl | rfl | rfl | rfl <;> rcases h' with rfl | rfl | rfl | rfl <;> simp [rankV]
theorem may_kind {k n : Int} {s : ByteArray} (h : mayV k n s = true) : k = 0 ∨ k = 1 ∨ k = 2 ∨ k = 3 := by
  unfold mayV at h
  simp at h
  rcases good_cases h.1 with h | h | h | h | h <;> omega
theorem bytes_data {s t : ByteArray} : s.data.toList = t.data.toList ↔ s.toList = t.toList := by rw [ByteArray.toList_eq, ByteArray.toList_eq]
theorem or3_zero (a b c : Int) : or3 a b c = 0 ↔ a = 0 ∧ b = 0 ∧ c = 0 := by
  unfold or3
  by_cases ha : a = 0 <;> by_cases hb : b = 0 <;> simp [ha, hb]
theorem cmpV_zero {k n : Int} {s : ByteArray} {k' n' : Int} {s' : ByteArray} (h : mayV k n s = true) (h' : mayV k' n' s' = true) : cmpV k n s k' n' s' = 0 ↔ sameB k n s k' n' s' = true := by
  unfold cmpV sameB
  rw [or3_zero, sgn_zero, sgn_zero, rank_inj (may_kind h) (may_kind h'), cmp_zero, bytes_data]
  simp [and_assoc]
theorem or3_le {a b c : Int} (h : or3 a b c ≤ 0) : a < 0 ∨ (a = 0 ∧ b < 0) ∨ (a = 0 ∧ b = 0 ∧ c ≤ 0) := by
  unfold or3 at h
  by_cases ha : a = 0
  · by_cases hb : b = 0
    · rw [if_pos ha, if_pos hb] at h; exact .inr (.inr ⟨ha, hb, h⟩)
    · rw [if_pos ha, if_neg hb] at h; exact .inr (.inl ⟨ha, by omega⟩)
  · rw [if_neg ha] at h; exact .inl (by omega)
theorem le_or3 {a b c : Int} (h : a < 0 ∨ (a = 0 ∧ b < 0) ∨ (a = 0 ∧ b = 0 ∧ c ≤ 0)) : or3 a b c ≤ 0 := by
  unfold or3
  rcases h with h | ⟨h, h'⟩ | ⟨h, h', h''⟩
  · rw [if_neg (by omega)]; omega
  · rw [if_pos h, if_neg (by omega)]; omega
  · rw [if_pos h, if_pos h']; exact h''
theorem sgn_neg (a b : Int) : sgn a b < 0 ↔ a < b := by
  unfold sgn
  split
  · constructor <;> intro h <;> omega
  · split
    · constructor <;> intro h <;> omega
    · constructor <;> intro h <;> omega
theorem cmpV_over (k n : Int) (s : ByteArray) (k' n' : Int) (s' : ByteArray) (q m : Int) (t : ByteArray) (h : cmpV k n s k' n' s' ≤ 0) (h' : cmpV k' n' s' q m t ≤ 0) : cmpV k n s q m t ≤ 0 := by
  unfold cmpV at h h' ⊢
  apply le_or3
  have h := or3_le h
  have h' := or3_le h'
  rw [sgn_neg, sgn_zero, sgn_neg, sgn_zero] at h h' ⊢
  rcases h with h | ⟨h1, h2⟩ | ⟨h1, h2, h3⟩ <;> rcases h' with h' | ⟨g1, g2⟩ | ⟨g1, g2, g3⟩
  · exact .inl (by omega)
  · exact .inl (by omega)
  · exact .inl (by omega)
  · exact .inl (by omega)
  · exact .inr (.inl ⟨by omega, by omega⟩)
  · exact .inr (.inl ⟨by omega, by omega⟩)
  · exact .inl (by omega)
  · exact .inr (.inl ⟨by omega, by omega⟩)
  · exact .inr (.inr ⟨by omega, by omega, cmp_over _ _ _ h3 g3⟩)
/-- Alike to the second, each is to the third as the second is. -/
theorem cmpV_alike {k n : Int} {s : ByteArray} {k' n' : Int} {s' : ByteArray} (q m : Int) (t : ByteArray) (h : mayV k n s = true) (h' : mayV k' n' s' = true) (e : cmpV k n s k' n' s' = 0) : cmpV k n s q m t = cmpV k' n' s' q m t := by
  have := (cmpV_zero h h').1 e
  unfold sameB at this
  simp at this
  obtain ⟨⟨rfl, rfl⟩, h3⟩ := this
  rw [bytes_eq h3]
end Go.Proofs.YtkjfcepggpdokaaRRRRDoor.P

/- ValueTells, as a plain fact. -/
namespace Go.Proofs.YtkjfcepggpdokaaRRRRDoor.P
open Go.RowKit Go.Proofs.YtkjfcepggpdokaaRRRRDoorW.PrintWords Go.Proofs.YtkjfcepggpdokaaRRRRDoorW.PrintLast Go.Proofs.YtkjfcepggpdokaaRRRRDoorW.PrintMore
set_option linter.unusedVariables false
set_option linter.unusedSimpArgs false

theorem rvgood_eq (k n : Int) (s : ByteArray) : pannierref03_Good.f k n s = some (goodB k n s) := vgood_eq k n s
theorem keepsame_eq (k n : Int) (s : ByteArray) (k' n' : Int) (s' : ByteArray) : pannierkeep_Value.f k n s k' n' s' = some (sameB k n s k' n' s') := same_eq k n s k' n' s'
theorem sign_eq (a b : Int) : pannierref03_sign.f (decide (a < b)) (decide (a > b)) = some (sgn a b) := by
  unfold pannierref03_sign.f sgn
  by_cases h1 : a < b <;> by_cases h2 : a > b <;> simp [h1, h2]
theorem sign_bytes (a b : List UInt8) : pannierref03_sign.f (Op.bytesLess a b) (Op.bytesLess b a) = some (Lib.compareBytes a b) := by
  unfold pannierref03_sign.f
  rw [less_cmp, less_cmp, cmp_turn a b]
  rcases cmp_range a b with h | h | h <;> rw [h] <;> simp
theorem rrank_eq (r : Nat) (hr : 10 ≤ r) {k : Int} (h : k = 0 ∨ k = 1 ∨ k = 2 ∨ k = 3) : pannierref03_rank.f r k = some (rankV k) := by
  rcases h with rfl | rfl | rfl | rfl
  · exact at_rounds (pannierref03_rank.mono 0) hr (by decide +kernel)
  · exact at_rounds (pannierref03_rank.mono 1) hr (by decide +kernel)
  · exact at_rounds (pannierref03_rank.mono 2) hr (by decide +kernel)
  · exact at_rounds (pannierref03_rank.mono 3) hr (by decide +kernel)
theorem cmpV_far {k n : Int} {s : ByteArray} {k' n' : Int} {s' : ByteArray} (h : sgn (rankV k) (rankV k') ≠ 0) : cmpV k n s k' n' s' = sgn (rankV k) (rankV k') := by
  unfold cmpV or3; rw [if_neg h]
theorem cmpV_near {k n : Int} {s : ByteArray} {n' : Int} {s' : ByteArray} : cmpV k n s k n' s' = if sgn n n' = 0 then Lib.compareBytes s.data.toList s'.data.toList else sgn n n' := by
  unfold cmpV or3; rw [if_pos ((sgn_zero _ _).2 rfl)]
theorem may_text {n : Int} {s : ByteArray} (h : mayV 3 n s = true) : n = 0 := by
  unfold mayV at h
  simp at h
  rcases good_cases h with h | h | h | h | h <;> omega
theorem may_none {k n : Int} {s : ByteArray} (h : mayV k n s = true) (h3 : k ≠ 3) : s = noB := by
  unfold mayV at h
  simp at h
  rcases good_cases h.1 with h | h | h | h | h
  · exact h.2.2
  · exact h.2.2
  · exact h.2
  · omega
  · exact h.2.2.2
theorem rcompare_eq (r : Nat) (hr : 20 ≤ r) (k n : Int) (s : ByteArray) (k' n' : Int) (s' : ByteArray) : pannierref03_Compare.f r k n s k' n' s' = some (compareV k n s k' n' s') := by
  obtain ⟨r, rfl⟩ : ∃ m, r = m + 1 := ⟨r - 1, by omega⟩
  have no : pannierref03_Compare.j0 (r + 1) true k n s k' n' s' = some (0, false) := by rw [pannierref03_Compare.j0, if_pos rfl]
  unfold pannierref03_Compare.f compareV
  rw [rvgood_eq, Option.bind_some, rvgood_eq, Option.bind_some]
  by_cases h1 : goodB k n s = true
  · by_cases h2 : goodB k' n' s' = true
    · by_cases h3 : k = 4
      · rw [if_pos h1, if_pos h2, if_pos h3, no, if_neg (by simp [mayV, h3])]
      · by_cases h4 : k' = 4
        · rw [if_pos h1, if_pos h2, if_neg h3, show (k' == 4) = true by simp [h4], no, if_neg (by simp [mayV, h4])]
        · have m1 : mayV k n s = true := by simp [mayV, h1, h3]
          have m2 : mayV k' n' s' = true := by simp [mayV, h2, h4]
          rw [if_pos h1, if_pos h2, if_neg h3, show (k' == 4) = false by simp [h4], pannierref03_Compare.j0, if_neg (by simp), show (if mayV k n s = true ∧ mayV k' n' s' = true then (cmpV k n s k' n' s', true) else (0, false)) = (cmpV k n s k' n' s', true) from if_pos ⟨m1, m2⟩]
          by_cases hk : k = k'
          · subst hk
            rw [if_pos rfl, cmpV_near]
            by_cases h3 : k = 3
            · subst h3
              obtain rfl := may_text m1
              obtain rfl := may_text m2
              rw [if_pos rfl, sign_bytes, Option.bind_some, if_pos ((sgn_zero _ _).2 rfl), ByteArray.toList_eq, ByteArray.toList_eq]
            · obtain rfl := may_none m1 h3
              obtain rfl := may_none m2 h3
              rw [if_neg h3, sign_eq, Option.bind_some]
              split
              · rename_i e; rw [e]; rfl
              · rfl
          · have hs : sgn (rankV k) (rankV k') ≠ 0 := fun e => hk ((rank_inj (may_kind m1) (may_kind m2)).1 ((sgn_zero _ _).1 e))
            rw [if_neg hk, cmpV_far hs, rrank_eq r (by omega) (may_kind m1), Option.bind_some, rrank_eq r (by omega) (may_kind m2), Option.bind_some, Option.bind_some, Option.bind_some, sign_eq, Option.bind_some]
    · rw [if_pos h1, if_neg h2, no, if_neg (by simp [mayV, h2])]
  · rw [if_neg h1, no, if_neg (by simp [mayV, h1])]
theorem fail_tells (n : Int) : ∃ x : Int × Int × ByteArray, value_Fail.f n = some x ∧ pannierref03_Fail.f n = some x := by
  have : ∃ x, value_Fail.f n = some x := by
    unfold value_Fail.f
    split
    · exact ⟨_, rfl⟩
    · split <;> exact ⟨_, rfl⟩
  obtain ⟨x, hx⟩ := this
  exact ⟨x, hx, hx⟩
theorem rvof_eq (s : ByteArray) : pannierref03_Of.f s = some (if s.size ≤ 200 then (3, 0, s) else (4, 7, noB)) := vof_eq s
theorem ValueTells_run (m : Nat) (hm : 100 ≤ m) (x : Int) (b : Bool) (k n : Int) (s : ByteArray) (k' n' : Int) (s' : ByteArray) : pannierlaw03_ValueTells.j0 (m + 1) x b k n s k' n' s' = some true := by
  rw [pannierlaw03_ValueTells.j0]
  cases b
  · obtain ⟨v, h1, h2⟩ := fail_tells x
    rw [if_neg (by simp), vcompare_eq _ (by omega), Option.bind_some, rcompare_eq _ (by omega), Option.bind_some, vgood_eq, Option.bind_some, rvgood_eq, Option.bind_some, if_pos (by simp), same_eq, Option.bind_some, keepsame_eq, Option.bind_some, if_pos (by simp), if_pos rfl, if_pos (by simp), vof_eq, Option.bind_some, rvof_eq, Option.bind_some, keepsame_eq, Option.bind_some, if_pos (same_self _ _ _), h1, Option.bind_some, h2, Option.bind_some, keepsame_eq, Option.bind_some, if_pos (same_self _ _ _), wakes03 _ hm, Option.bind_some]
  · rw [if_pos rfl, wakes03 _ hm, Option.bind_some]
theorem ValueTells_pure (k n : Int) (s : ByteArray) (k' n' : Int) (s' : ByteArray) (x : Int) (hx : (Lit.int .i64 x).wf = true) : ∃ r, pannierlaw03_ValueTells.f r k n s k' n' s' x = some true := by
  refine ⟨101, ?_⟩
  unfold pannierlaw03_ValueTells.f pannierlaw03_large.f
  rw [Option.bind_some, Option.bind_some]
  split
  · exact ValueTells_run 100 (by omega) x _ k n s k' n' s'
  · exact ValueTells_run 100 (by omega) x _ k n s k' n' s'
end Go.Proofs.YtkjfcepggpdokaaRRRRDoor.P
