/- Contracts of the functions that the law reaches, each with the plain function that it comes to, and plain facts about these. -/
import Derived.Lib.Bytealg
import Derived.Laws.Strings
import Derived.Test.YtmhjnkeflbklpaaDoorBVa1
import Derived.Test.YtmhjnkeflbklpaaDoorBVa2
import Derived.Test.YtmhjnkeflbklpaaDoorBVa3
namespace Go.Proofs.YtmhjnkeflbklpaaDoor.P
open Go.RowKit Go.Proofs.YtmhjnkeflbklpaaDoorW.PrintWords Go.Proofs.YtmhjnkeflbklpaaDoorW.PrintLast Go.Proofs.YtmhjnkeflbklpaaDoorW.PrintMore
attribute [local go_sem] max2_int min2_int max_two min_two max_three min_three max_four min_four   -- for this text's walks alone
set_option linter.unusedVariables false
set_option linter.unusedSimpArgs false
def pannierlaw03_ValueAs.f (k : Nat) (a0_0 : Int) (a0_1 : Int) (a0_2 : ByteArray) : Option (Bool) := (pannierlaw03_large.f a0_0 a0_1 a0_2).bind fun t286 => (if t286 = true then ((pannierlaw03_wakes.f k).bind fun t287 => (some t287)) else ((value_Num.f k a0_0 a0_1 a0_2).bind fun bt288 => ((value_Flag.f k a0_0 a0_1 a0_2).bind fun bt293 => ((value_Str.f k a0_0 a0_1 a0_2).bind fun bt298 => ((pannierref03_Num.f k a0_0 a0_1 a0_2).bind fun bt303 => ((pannierref03_Flag.f a0_0 a0_1 a0_2).bind fun bt309 => ((pannierref03_Str.f k a0_0 a0_1 a0_2).bind fun bt315 => ((value_Show.f a0_0 a0_1 a0_2).bind fun t324 => ((pannierref03_Show.f k a0_0 a0_1 a0_2).bind fun t325 => (if t324.toList = t325.toList then (if bt288.1 = bt303.1 then ((pannierkeep_Value.f bt288.2.1 bt288.2.2.1 bt288.2.2.2 bt303.2.2.2.1 bt303.2.2.2.2.1 bt303.2.2.2.2.2).bind fun t326 => (if t326 = true then (if (bt293.1 == bt309.2.1) = true then ((pannierkeep_Value.f bt293.2.1 bt293.2.2.1 bt293.2.2.2 bt309.2.2.2.1 bt309.2.2.2.2.1 bt309.2.2.2.2.2).bind fun t327 => (if t327 = true then (if bt298.1.toList = bt315.2.2.1.toList then ((pannierkeep_Value.f bt298.2.1 bt298.2.2.1 bt298.2.2.2 bt315.2.2.2.1 bt315.2.2.2.2.1 bt315.2.2.2.2.2).bind fun t328 => (if t328 = true then ((pannierlaw03_wakes.f k).bind fun t329 => (some t329)) else (none))) else (none)) else (none))) else (none)) else (none))) else (none)) else (none)))))))))))
def pannierlaw03_ValueAs.T6 : Bool × List (List Nat × List Nat) := (true, [([], []), ([0], [0]), ([], []), ([2, 1], [2]), ([], []), ([4, 3], [4]), ([], []), ([], []), ([], []), ([6, 1, 5, 0, 1, 6, 7, 8], [1, 6]), ([7, 3, 9, 0, 1, 2, 3, 6, 7, 8, 9], [3, 7]), ([8, 5, 10, 0, 1, 2, 3, 4, 5, 6, 7, 8, 9, 10], [5, 8])])
def pannierlaw03_ValueAs.B6 : List Nat := [0, 1, 0, 7, 0, 31, 0, 0, 0, 511, 1023, 2047]
theorem pannierlaw03_ValueAs.tab6 : rtab .any (opsOf Tryd.f5 6) = pannierlaw03_ValueAs.T6 := by kernel_rfl
theorem pannierlaw03_ValueAs.bits6 : waitsOk pannierlaw03_ValueAs.T6.2 pannierlaw03_ValueAs.B6 = true := by kernel_rfl
def pannierlaw03_ValueAs.T7 : Bool × List (List Nat × List Nat) := (true, [([], []), ([0], [0]), ([], []), ([2, 1], [2]), ([1, 3], [1, 3]), ([4, 3], [4]), ([5], [5]), ([5], [5]), ([7, 5], [5, 7]), ([6, 8, 5], [5, 6, 8]), ([5, 9], [5, 9]), ([10, 5], [10]), ([11], [11]), ([11], [11]), ([13, 11], [11, 13]), ([12, 14, 11, 11], [11, 12, 14]), ([11, 15], [11, 15]), ([16, 15], [16]), ([17], [17]), ([17], [17]), ([19, 17], [17, 19]), ([18, 20, 17], [17, 18, 20]), ([17, 21], [17, 21]), ([22, 17], [22]), ([23], [23]), ([23], [23]), ([25, 23], [23, 25]), ([24, 26, 23, 23], [23, 24, 26]), ([23, 27], [23, 27]), ([28, 27], [28]), ([29], [29]), ([29], [29]), ([31, 29], [29, 31]), ([30, 32, 29], [29, 30, 32]), ([29, 33], [29, 33]), ([34, 29], [34]), ([35], [35]), ([35], [35]), ([37, 35], [35, 37]), ([36, 38, 35, 35], [35, 36, 38]), ([35, 39], [35, 39]), ([40, 39], [40]), ([41, 41], [41]), ([41, 42], [41, 42]), ([43, 42, 0, 1, 2, 3, 4, 5, 6, 7, 8, 9, 10, 11, 12, 13, 14, 15, 16, 17, 18, 19, 20, 21, 22, 23, 24, 25, 26, 27, 28, 29, 30, 31, 32, 33, 34, 35, 36, 37, 38, 39, 40, 41, 42, 43], [43])])
def pannierlaw03_ValueAs.B7 : List Nat := [0, 1, 0, 7, 15, 31, 63, 63, 191, 511, 1023, 2047, 4095, 4095, 12287, 32767, 65535, 131071, 262143, 262143, 786431, 2097151, 4194303, 8388607, 16777215, 16777215, 50331647, 134217727, 268435455, 536870911, 1073741823, 1073741823, 3221225471, 8589934591, 17179869183, 34359738367, 68719476735, 68719476735, 206158430207, 549755813887, 1099511627775, 2199023255551, 4398046511103, 8796093022207, 17592186044415]
theorem pannierlaw03_ValueAs.tab7 : rtab .any (opsOf Tryd.f5 7) = pannierlaw03_ValueAs.T7 := by kernel_rfl
theorem pannierlaw03_ValueAs.bits7 : waitsOk pannierlaw03_ValueAs.T7.2 pannierlaw03_ValueAs.B7 = true := by kernel_rfl
set_option maxHeartbeats 8000000 in
set_option maxRecDepth 100000 in
theorem pannierlaw03_ValueAs.calls (k : Nat) (a0_0 : Int) (a0_1 : Int) (a0_2 : ByteArray) (r : Bool) (w : World) (hG : G2 w) (h : pannierlaw03_ValueAs.f k a0_0 a0_1 a0_2 = some r) :
    Calls Tryd.prog 5 #[.agg #[.int .i64 a0_0, .int .i64 a0_1, .string a0_2]] w fun e w' => e = .returned (.bool r) ∧ Below w.heap.size w w' := by
  have hu42 := Tryd.underlying42
  have hu51 := Tryd.underlying51
  have HB := Aside0.mk (Below.refl w.heap.size w)
  have H : ((pannierlaw03_large.f a0_0 a0_1 a0_2).bind fun t286 => (if t286 = true then ((pannierlaw03_wakes.f k).bind fun t287 => (some t287)) else ((value_Num.f k a0_0 a0_1 a0_2).bind fun bt288 => ((value_Flag.f k a0_0 a0_1 a0_2).bind fun bt293 => ((value_Str.f k a0_0 a0_1 a0_2).bind fun bt298 => ((pannierref03_Num.f k a0_0 a0_1 a0_2).bind fun bt303 => ((pannierref03_Flag.f a0_0 a0_1 a0_2).bind fun bt309 => ((pannierref03_Str.f k a0_0 a0_1 a0_2).bind fun bt315 => ((value_Show.f a0_0 a0_1 a0_2).bind fun t324 => ((pannierref03_Show.f k a0_0 a0_1 a0_2).bind fun t325 => (if t324.toList = t325.toList then (if bt288.1 = bt303.1 then ((pannierkeep_Value.f bt288.2.1 bt288.2.2.1 bt288.2.2.2 bt303.2.2.2.1 bt303.2.2.2.2.1 bt303.2.2.2.2.2).bind fun t326 => (if t326 = true then (if (bt293.1 == bt309.2.1) = true then ((pannierkeep_Value.f bt293.2.1 bt293.2.2.1 bt293.2.2.2 bt309.2.2.2.1 bt309.2.2.2.2.1 bt309.2.2.2.2.2).bind fun t327 => (if t327 = true then (if bt298.1.toList = bt315.2.2.1.toList then ((pannierkeep_Value.f bt298.2.1 bt298.2.2.1 bt298.2.2.2 bt315.2.2.2.1 bt315.2.2.2.2.1 bt315.2.2.2.2.2).bind fun t328 => (if t328 = true then ((pannierlaw03_wakes.f k).bind fun t329 => (some t329)) else (none))) else (none)) else (none))) else (none)) else (none))) else (none)) else (none)))))))))))) = some r := h
  clear h
  replace H := Option.bind_eq_some_iff.mp H
  obtain ⟨t286, A20, H⟩ := H
  replace H : (if t286 = true then ((pannierlaw03_wakes.f k).bind fun t287 => (some t287)) else ((value_Num.f k a0_0 a0_1 a0_2).bind fun bt288 => ((value_Flag.f k a0_0 a0_1 a0_2).bind fun bt293 => ((value_Str.f k a0_0 a0_1 a0_2).bind fun bt298 => ((pannierref03_Num.f k a0_0 a0_1 a0_2).bind fun bt303 => ((pannierref03_Flag.f a0_0 a0_1 a0_2).bind fun bt309 => ((pannierref03_Str.f k a0_0 a0_1 a0_2).bind fun bt315 => ((value_Show.f a0_0 a0_1 a0_2).bind fun t324 => ((pannierref03_Show.f k a0_0 a0_1 a0_2).bind fun t325 => (if t324.toList = t325.toList then (if bt288.1 = bt303.1 then ((pannierkeep_Value.f bt288.2.1 bt288.2.2.1 bt288.2.2.2 bt303.2.2.2.1 bt303.2.2.2.2.1 bt303.2.2.2.2.2).bind fun t326 => (if t326 = true then (if (bt293.1 == bt309.2.1) = true then ((pannierkeep_Value.f bt293.2.1 bt293.2.2.1 bt293.2.2.2 bt309.2.2.2.1 bt309.2.2.2.2.1 bt309.2.2.2.2.2).bind fun t327 => (if t327 = true then (if bt298.1.toList = bt315.2.2.1.toList then ((pannierkeep_Value.f bt298.2.1 bt298.2.2.1 bt298.2.2.2 bt315.2.2.2.1 bt315.2.2.2.2.1 bt315.2.2.2.2.2).bind fun t328 => (if t328 = true then ((pannierlaw03_wakes.f k).bind fun t329 => (some t329)) else (none))) else (none)) else (none))) else (none)) else (none))) else (none)) else (none))))))))))) = some r := H
  have A2 := Aside0.mk A20
  clear A20
  by_cases c3 : t286 = true
  · subst c3
    have H1 : ((pannierlaw03_wakes.f k).bind fun t287 => (some t287)) = some r := by rw [if_pos rfl] at H; exact H
    clear H
    have H := H1
    clear H1
    replace H := Option.bind_eq_some_iff.mp H
    obtain ⟨t287, A40, H⟩ := H
    replace H : (some t287) = some r := H
    have A4 := Aside0.mk A40
    clear A40
    obtain rfl := Option.some.inj H
    go_enter Tryd.func5, Tryd.ntmps5
    go_wp2_with (first | ((with_reducible refine gate_dst (N := 1) rfl ?_); refine box_event ?hg (N := 1) ?hd (cs := #[.int .i64 a0_0, .int .i64 a0_1, .string a0_2]) (t := 42) ?hr ?_; (case hd => rfl); (case hg => rfl); (case hr => first | (go_simp; done) | (go_simp; rfl)); intro gb285 hg w5 hbox hb; have n0_ := Aside0.mk (below_step (by repeat first | with_reducible exact HB.out | apply zS | exact HB.out) hb); have n1_ := Aside0.mk (hbox); have n2_ := Aside0.mk ((by rw [hg]; exact (below_size (by repeat first | with_reducible exact HB.out | apply zS | exact HB.out)) : w.heap.size ≤ gb285)); have n3_ := n2_; clear HB; have HB := n0_; have BK285 := n1_; have GW285 := n2_; have GE285 := n3_; clear n0_ n1_ n2_ n3_; clear hb hbox hg; obtain ⟨hcz6_0, hcz6_1, hcz6_2, hfz6_0, hfz6_1, hfz6_2⟩ := zC3 BK285.out) | ((with_reducible refine gate_callee (f := 14) rfl ?_); refine goesL_ (some 13) rfl rfl Tryd.func14 (by kernel_rfl) rfl #[.agg #[.int .i64 a0_0, .int .i64 a0_1, .string a0_2]] rfl (by (try simp only [List.map_toArray, List.map_cons, List.map_nil]); first | done | rfl | (simp only [List.length_drop, List.length_take]; rfl)) ?_; (with_reducible refine (pannierlaw03_large.calls a0_0 a0_1 a0_2 true _ A2.out).mono ?_); rintro e w7 ⟨rfl, hb⟩; refine ⟨_, rfl, ?_⟩; have n0_ := Aside0.mk (blk_below (g := gb285) (o := .cells #[.int .i64 a0_0, .int .i64 a0_1, .string a0_2] 42 (0, 0)) (zB BK285.out) hb); have n1_ := Aside0.mk (below_step (by repeat first | with_reducible exact HB.out | apply zS | refine below_set ?_ GE285.out | exact HB.out) hb); clear BK285; clear HB; have BK285 := n0_; have HB := n1_; clear n0_ n1_; (try clear hb); (try clear hb2); (try clear hk); (try clear hi)) | ((with_reducible refine gate_callee (f := 15) rfl ?_); refine goesL_ (some 14) rfl rfl Tryd.func15 (by kernel_rfl) rfl #[] rfl (by (try simp only [List.map_toArray, List.map_cons, List.map_nil]); first | done | rfl | (simp only [List.length_drop, List.length_take]; rfl)) ?_; (with_reducible refine (pannierlaw03_wakes.calls k  t287 _ ?side1 A4.out).mono ?_); (case side1 => exact gl_2_2 (by repeat first | with_reducible exact HB.out | apply zS | refine below_set ?_ GE285.out | exact HB.out) hG); rintro e w8 ⟨rfl, hb⟩; refine ⟨_, rfl, ?_⟩; have n0_ := Aside0.mk (blk_below (g := gb285) (o := .cells #[.int .i64 a0_0, .int .i64 a0_1, .string a0_2] 42 (0, 0)) (zB BK285.out) hb); have n1_ := Aside0.mk (below_step (by repeat first | with_reducible exact HB.out | apply zS | refine below_set ?_ GE285.out | exact HB.out) hb); clear BK285; clear HB; have BK285 := n0_; have HB := n1_; clear n0_ n1_; (try clear hb); (try clear hb2); (try clear hk); (try clear hi)))
    go_ret
    exact ⟨by first | rfl | (simp [errW_none, errW_some] <;> rfl) | (simp [*, errW_none, errW_some] <;> rfl), by repeat first | with_reducible exact HB.out | apply zS | refine below_set ?_ GE285.out | exact HB.out⟩
  · replace c3 := Bool.eq_false_iff.mpr c3
    subst c3
    have H1 : ((value_Num.f k a0_0 a0_1 a0_2).bind fun bt288 => ((value_Flag.f k a0_0 a0_1 a0_2).bind fun bt293 => ((value_Str.f k a0_0 a0_1 a0_2).bind fun bt298 => ((pannierref03_Num.f k a0_0 a0_1 a0_2).bind fun bt303 => ((pannierref03_Flag.f a0_0 a0_1 a0_2).bind fun bt309 => ((pannierref03_Str.f k a0_0 a0_1 a0_2).bind fun bt315 => ((value_Show.f a0_0 a0_1 a0_2).bind fun t324 => ((pannierref03_Show.f k a0_0 a0_1 a0_2).bind fun t325 => (if t324.toList = t325.toList then (if bt288.1 = bt303.1 then ((pannierkeep_Value.f bt288.2.1 bt288.2.2.1 bt288.2.2.2 bt303.2.2.2.1 bt303.2.2.2.2.1 bt303.2.2.2.2.2).bind fun t326 => (if t326 = true then (if (bt293.1 == bt309.2.1) = true then ((pannierkeep_Value.f bt293.2.1 bt293.2.2.1 bt293.2.2.2 bt309.2.2.2.1 bt309.2.2.2.2.1 bt309.2.2.2.2.2).bind fun t327 => (if t327 = true then (if bt298.1.toList = bt315.2.2.1.toList then ((pannierkeep_Value.f bt298.2.1 bt298.2.2.1 bt298.2.2.2 bt315.2.2.2.1 bt315.2.2.2.2.1 bt315.2.2.2.2.2).bind fun t328 => (if t328 = true then ((pannierlaw03_wakes.f k).bind fun t329 => (some t329)) else (none))) else (none)) else (none))) else (none)) else (none))) else (none)) else (none)))))))))) = some r := by rw [if_neg (show ¬ (false = true) by decide)] at H; exact H
    clear H
    have H := H1
    clear H1
    replace H := Option.bind_eq_some_iff.mp H
    obtain ⟨⟨t288, t289, t290, t291⟩, A90, H⟩ := H
    replace H : ((value_Flag.f k a0_0 a0_1 a0_2).bind fun bt293 => ((value_Str.f k a0_0 a0_1 a0_2).bind fun bt298 => ((pannierref03_Num.f k a0_0 a0_1 a0_2).bind fun bt303 => ((pannierref03_Flag.f a0_0 a0_1 a0_2).bind fun bt309 => ((pannierref03_Str.f k a0_0 a0_1 a0_2).bind fun bt315 => ((value_Show.f a0_0 a0_1 a0_2).bind fun t324 => ((pannierref03_Show.f k a0_0 a0_1 a0_2).bind fun t325 => (if t324.toList = t325.toList then (if t288 = bt303.1 then ((pannierkeep_Value.f t289 t290 t291 bt303.2.2.2.1 bt303.2.2.2.2.1 bt303.2.2.2.2.2).bind fun t326 => (if t326 = true then (if (bt293.1 == bt309.2.1) = true then ((pannierkeep_Value.f bt293.2.1 bt293.2.2.1 bt293.2.2.2 bt309.2.2.2.1 bt309.2.2.2.2.1 bt309.2.2.2.2.2).bind fun t327 => (if t327 = true then (if bt298.1.toList = bt315.2.2.1.toList then ((pannierkeep_Value.f bt298.2.1 bt298.2.2.1 bt298.2.2.2 bt315.2.2.2.1 bt315.2.2.2.2.1 bt315.2.2.2.2.2).bind fun t328 => (if t328 = true then ((pannierlaw03_wakes.f k).bind fun t329 => (some t329)) else (none))) else (none)) else (none))) else (none)) else (none))) else (none)) else (none))))))))) = some r := H
    have A9 := Aside0.mk A90
    clear A90
    replace H := Option.bind_eq_some_iff.mp H
    obtain ⟨⟨t293, t294, t295, t296⟩, A100, H⟩ := H
    replace H : ((value_Str.f k a0_0 a0_1 a0_2).bind fun bt298 => ((pannierref03_Num.f k a0_0 a0_1 a0_2).bind fun bt303 => ((pannierref03_Flag.f a0_0 a0_1 a0_2).bind fun bt309 => ((pannierref03_Str.f k a0_0 a0_1 a0_2).bind fun bt315 => ((value_Show.f a0_0 a0_1 a0_2).bind fun t324 => ((pannierref03_Show.f k a0_0 a0_1 a0_2).bind fun t325 => (if t324.toList = t325.toList then (if t288 = bt303.1 then ((pannierkeep_Value.f t289 t290 t291 bt303.2.2.2.1 bt303.2.2.2.2.1 bt303.2.2.2.2.2).bind fun t326 => (if t326 = true then (if (t293 == bt309.2.1) = true then ((pannierkeep_Value.f t294 t295 t296 bt309.2.2.2.1 bt309.2.2.2.2.1 bt309.2.2.2.2.2).bind fun t327 => (if t327 = true then (if bt298.1.toList = bt315.2.2.1.toList then ((pannierkeep_Value.f bt298.2.1 bt298.2.2.1 bt298.2.2.2 bt315.2.2.2.1 bt315.2.2.2.2.1 bt315.2.2.2.2.2).bind fun t328 => (if t328 = true then ((pannierlaw03_wakes.f k).bind fun t329 => (some t329)) else (none))) else (none)) else (none))) else (none)) else (none))) else (none)) else (none)))))))) = some r := H
    have A10 := Aside0.mk A100
    clear A100
    replace H := Option.bind_eq_some_iff.mp H
    obtain ⟨⟨t298, t299, t300, t301⟩, A110, H⟩ := H
    replace H : ((pannierref03_Num.f k a0_0 a0_1 a0_2).bind fun bt303 => ((pannierref03_Flag.f a0_0 a0_1 a0_2).bind fun bt309 => ((pannierref03_Str.f k a0_0 a0_1 a0_2).bind fun bt315 => ((value_Show.f a0_0 a0_1 a0_2).bind fun t324 => ((pannierref03_Show.f k a0_0 a0_1 a0_2).bind fun t325 => (if t324.toList = t325.toList then (if t288 = bt303.1 then ((pannierkeep_Value.f t289 t290 t291 bt303.2.2.2.1 bt303.2.2.2.2.1 bt303.2.2.2.2.2).bind fun t326 => (if t326 = true then (if (t293 == bt309.2.1) = true then ((pannierkeep_Value.f t294 t295 t296 bt309.2.2.2.1 bt309.2.2.2.2.1 bt309.2.2.2.2.2).bind fun t327 => (if t327 = true then (if t298.toList = bt315.2.2.1.toList then ((pannierkeep_Value.f t299 t300 t301 bt315.2.2.2.1 bt315.2.2.2.2.1 bt315.2.2.2.2.2).bind fun t328 => (if t328 = true then ((pannierlaw03_wakes.f k).bind fun t329 => (some t329)) else (none))) else (none)) else (none))) else (none)) else (none))) else (none)) else (none))))))) = some r := H
    have A11 := Aside0.mk A110
    clear A110
    replace H := Option.bind_eq_some_iff.mp H
    obtain ⟨⟨t303, t304, t305, t306, t307, t308⟩, A120, H⟩ := H
    replace H : ((pannierref03_Flag.f a0_0 a0_1 a0_2).bind fun bt309 => ((pannierref03_Str.f k a0_0 a0_1 a0_2).bind fun bt315 => ((value_Show.f a0_0 a0_1 a0_2).bind fun t324 => ((pannierref03_Show.f k a0_0 a0_1 a0_2).bind fun t325 => (if t324.toList = t325.toList then (if t288 = t303 then ((pannierkeep_Value.f t289 t290 t291 t306 t307 t308).bind fun t326 => (if t326 = true then (if (t293 == bt309.2.1) = true then ((pannierkeep_Value.f t294 t295 t296 bt309.2.2.2.1 bt309.2.2.2.2.1 bt309.2.2.2.2.2).bind fun t327 => (if t327 = true then (if t298.toList = bt315.2.2.1.toList then ((pannierkeep_Value.f t299 t300 t301 bt315.2.2.2.1 bt315.2.2.2.2.1 bt315.2.2.2.2.2).bind fun t328 => (if t328 = true then ((pannierlaw03_wakes.f k).bind fun t329 => (some t329)) else (none))) else (none)) else (none))) else (none)) else (none))) else (none)) else (none)))))) = some r := H
    have A12 := Aside0.mk A120
    clear A120
    replace H := Option.bind_eq_some_iff.mp H
    obtain ⟨⟨t309, t310, t311, t312, t313, t314⟩, A130, H⟩ := H
    replace H : ((pannierref03_Str.f k a0_0 a0_1 a0_2).bind fun bt315 => ((value_Show.f a0_0 a0_1 a0_2).bind fun t324 => ((pannierref03_Show.f k a0_0 a0_1 a0_2).bind fun t325 => (if t324.toList = t325.toList then (if t288 = t303 then ((pannierkeep_Value.f t289 t290 t291 t306 t307 t308).bind fun t326 => (if t326 = true then (if (t293 == t310) = true then ((pannierkeep_Value.f t294 t295 t296 t312 t313 t314).bind fun t327 => (if t327 = true then (if t298.toList = bt315.2.2.1.toList then ((pannierkeep_Value.f t299 t300 t301 bt315.2.2.2.1 bt315.2.2.2.2.1 bt315.2.2.2.2.2).bind fun t328 => (if t328 = true then ((pannierlaw03_wakes.f k).bind fun t329 => (some t329)) else (none))) else (none)) else (none))) else (none)) else (none))) else (none)) else (none))))) = some r := H
    have A13 := Aside0.mk A130
    clear A130
    replace H := Option.bind_eq_some_iff.mp H
    obtain ⟨⟨t315, t316, t317, t318, t319, t320⟩, A140, H⟩ := H
    replace H : ((value_Show.f a0_0 a0_1 a0_2).bind fun t324 => ((pannierref03_Show.f k a0_0 a0_1 a0_2).bind fun t325 => (if t324.toList = t325.toList then (if t288 = t303 then ((pannierkeep_Value.f t289 t290 t291 t306 t307 t308).bind fun t326 => (if t326 = true then (if (t293 == t310) = true then ((pannierkeep_Value.f t294 t295 t296 t312 t313 t314).bind fun t327 => (if t327 = true then (if t298.toList = t317.toList then ((pannierkeep_Value.f t299 t300 t301 t318 t319 t320).bind fun t328 => (if t328 = true then ((pannierlaw03_wakes.f k).bind fun t329 => (some t329)) else (none))) else (none)) else (none))) else (none)) else (none))) else (none)) else (none)))) = some r := H
    have A14 := Aside0.mk A140
    clear A140
    replace H := Option.bind_eq_some_iff.mp H
    obtain ⟨t324, A150, H⟩ := H
    replace H : ((pannierref03_Show.f k a0_0 a0_1 a0_2).bind fun t325 => (if t324.toList = t325.toList then (if t288 = t303 then ((pannierkeep_Value.f t289 t290 t291 t306 t307 t308).bind fun t326 => (if t326 = true then (if (t293 == t310) = true then ((pannierkeep_Value.f t294 t295 t296 t312 t313 t314).bind fun t327 => (if t327 = true then (if t298.toList = t317.toList then ((pannierkeep_Value.f t299 t300 t301 t318 t319 t320).bind fun t328 => (if t328 = true then ((pannierlaw03_wakes.f k).bind fun t329 => (some t329)) else (none))) else (none)) else (none))) else (none)) else (none))) else (none)) else (none))) = some r := H
    have A15 := Aside0.mk A150
    clear A150
    replace H := Option.bind_eq_some_iff.mp H
    obtain ⟨t325, A160, H⟩ := H
    replace H : (if t324.toList = t325.toList then (if t288 = t303 then ((pannierkeep_Value.f t289 t290 t291 t306 t307 t308).bind fun t326 => (if t326 = true then (if (t293 == t310) = true then ((pannierkeep_Value.f t294 t295 t296 t312 t313 t314).bind fun t327 => (if t327 = true then (if t298.toList = t317.toList then ((pannierkeep_Value.f t299 t300 t301 t318 t319 t320).bind fun t328 => (if t328 = true then ((pannierlaw03_wakes.f k).bind fun t329 => (some t329)) else (none))) else (none)) else (none))) else (none)) else (none))) else (none)) else (none)) = some r := H
    have A16 := Aside0.mk A160
    clear A160
    by_cases c17 : t324.toList = t325.toList
    · rw [if_pos c17] at H
      have c17b0 : (t324.toList == t325.toList) = true := beq_iff_eq.mpr c17
      have c17b1 : (t324.toList != t325.toList) = false := bne_eq_false_iff_eq.mpr c17
      clear c17
      by_cases c18 : t288 = t303
      · rw [if_pos c18] at H
        have c18b0 : (t288 == t303) = true := beq_iff_eq.mpr c18
        have c18b1 : (t288 != t303) = false := bne_eq_false_iff_eq.mpr c18
        clear c18
        replace H := Option.bind_eq_some_iff.mp H
        obtain ⟨t326, A190, H⟩ := H
        replace H : (if t326 = true then (if (t293 == t310) = true then ((pannierkeep_Value.f t294 t295 t296 t312 t313 t314).bind fun t327 => (if t327 = true then (if t298.toList = t317.toList then ((pannierkeep_Value.f t299 t300 t301 t318 t319 t320).bind fun t328 => (if t328 = true then ((pannierlaw03_wakes.f k).bind fun t329 => (some t329)) else (none))) else (none)) else (none))) else (none)) else (none)) = some r := H
        have A19 := Aside0.mk A190
        clear A190
        by_cases c20 : t326 = true
        · subst c20
          have H1 : (if (t293 == t310) = true then ((pannierkeep_Value.f t294 t295 t296 t312 t313 t314).bind fun t327 => (if t327 = true then (if t298.toList = t317.toList then ((pannierkeep_Value.f t299 t300 t301 t318 t319 t320).bind fun t328 => (if t328 = true then ((pannierlaw03_wakes.f k).bind fun t329 => (some t329)) else (none))) else (none)) else (none))) else (none)) = some r := by rw [if_pos rfl] at H; exact H
          clear H
          have H := H1
          clear H1
          by_cases c21 : (t293 == t310) = true
          · rw [if_pos c21] at H
            have c21b0 : (t293 == t310) = true := c21
            (try (have c21b1 : decide (t293 = t310) = true := by simpa using c21))
            (try (have c21b2 : (t293 == t310) = true := by simpa using c21))
            clear c21
            replace H := Option.bind_eq_some_iff.mp H
            obtain ⟨t327, A220, H⟩ := H
            replace H : (if t327 = true then (if t298.toList = t317.toList then ((pannierkeep_Value.f t299 t300 t301 t318 t319 t320).bind fun t328 => (if t328 = true then ((pannierlaw03_wakes.f k).bind fun t329 => (some t329)) else (none))) else (none)) else (none)) = some r := H
            have A22 := Aside0.mk A220
            clear A220
            by_cases c23 : t327 = true
            · subst c23
              have H1 : (if t298.toList = t317.toList then ((pannierkeep_Value.f t299 t300 t301 t318 t319 t320).bind fun t328 => (if t328 = true then ((pannierlaw03_wakes.f k).bind fun t329 => (some t329)) else (none))) else (none)) = some r := by rw [if_pos rfl] at H; exact H
              clear H
              have H := H1
              clear H1
              by_cases c24 : t298.toList = t317.toList
              · rw [if_pos c24] at H
                have c24b0 : (t298.toList == t317.toList) = true := beq_iff_eq.mpr c24
                have c24b1 : (t298.toList != t317.toList) = false := bne_eq_false_iff_eq.mpr c24
                clear c24
                replace H := Option.bind_eq_some_iff.mp H
                obtain ⟨t328, A250, H⟩ := H
                replace H : (if t328 = true then ((pannierlaw03_wakes.f k).bind fun t329 => (some t329)) else (none)) = some r := H
                have A25 := Aside0.mk A250
                clear A250
                by_cases c26 : t328 = true
                · subst c26
                  have H1 : ((pannierlaw03_wakes.f k).bind fun t329 => (some t329)) = some r := by rw [if_pos rfl] at H; exact H
                  clear H
                  have H := H1
                  clear H1
                  replace H := Option.bind_eq_some_iff.mp H
                  obtain ⟨t329, A270, H⟩ := H
                  replace H : (some t329) = some r := H
                  have A27 := Aside0.mk A270
                  clear A270
                  obtain rfl := Option.some.inj H
                  go_enter Tryd.func5, Tryd.ntmps5
                  try go_wp2_with (first | ((with_reducible refine gate_dst (N := 1) rfl ?_); refine box_event ?hg (N := 1) ?hd (cs := #[.int .i64 a0_0, .int .i64 a0_1, .string a0_2]) (t := 42) ?hr ?_; (case hd => rfl); (case hg => rfl); (case hr => first | (go_simp; done) | (go_simp; rfl)); intro gb285 hg w28 hbox hb; have n0_ := Aside0.mk (below_step (by repeat first | with_reducible exact HB.out | apply zS | exact HB.out) hb); have n1_ := Aside0.mk (hbox); have n2_ := Aside0.mk ((by rw [hg]; exact (below_size (by repeat first | with_reducible exact HB.out | apply zS | exact HB.out)) : w.heap.size ≤ gb285)); have n3_ := n2_; clear HB; have HB := n0_; have BK285 := n1_; have GW285 := n2_; have GE285 := n3_; clear n0_ n1_ n2_ n3_; clear hb hbox hg; obtain ⟨hcz29_0, hcz29_1, hcz29_2, hfz29_0, hfz29_1, hfz29_2⟩ := zC3 BK285.out) | ((with_reducible refine gate_callee (f := 14) rfl ?_); refine goesL_ (some 13) rfl rfl Tryd.func14 (by kernel_rfl) rfl #[.agg #[.int .i64 a0_0, .int .i64 a0_1, .string a0_2]] rfl (by (try simp only [List.map_toArray, List.map_cons, List.map_nil]); first | done | rfl | (simp only [List.length_drop, List.length_take]; rfl)) ?_; (with_reducible refine (pannierlaw03_large.calls a0_0 a0_1 a0_2 false _ A2.out).mono ?_); rintro e w30 ⟨rfl, hb⟩; refine ⟨_, rfl, ?_⟩; have n0_ := Aside0.mk (blk_below (g := gb285) (o := .cells #[.int .i64 a0_0, .int .i64 a0_1, .string a0_2] 42 (0, 0)) (zB BK285.out) hb); have n1_ := Aside0.mk (below_step (by repeat first | with_reducible exact HB.out | apply zS | refine below_set ?_ GE285.out | exact HB.out) hb); clear BK285; clear HB; have BK285 := n0_; have HB := n1_; clear n0_ n1_; (try clear hb); (try clear hb2); (try clear hk); (try clear hi); obtain ⟨hcz31_0, hcz31_1, hcz31_2, hfz31_0, hfz31_1, hfz31_2⟩ := zC3 BK285.out) | ((with_reducible refine gate_callee (f := 16) rfl ?_); refine goesL_ (some 17) rfl rfl Tryd.func16 (by kernel_rfl) rfl #[.agg #[.int .i64 a0_0, .int .i64 a0_1, .string a0_2]] rfl (by (try simp only [List.map_toArray, List.map_cons, List.map_nil]); first | done | rfl | (simp only [List.length_drop, List.length_take]; rfl)) ?_; (with_reducible refine (value_Num.calls k a0_0 a0_1 a0_2 t288 t289 t290 t291 _ ?side1 A9.out).mono ?_); (case side1 => exact gl_2_2 (by repeat first | with_reducible exact HB.out | apply zS | refine below_set ?_ GE285.out | exact HB.out) hG); rintro e w32 ⟨rfl, hb⟩; refine ⟨_, rfl, ?_⟩; have n0_ := Aside0.mk (blk_below (g := gb285) (o := .cells #[.int .i64 a0_0, .int .i64 a0_1, .string a0_2] 42 (0, 0)) (zB BK285.out) hb); have n1_ := Aside0.mk (below_step (by repeat first | with_reducible exact HB.out | apply zS | refine below_set ?_ GE285.out | exact HB.out) hb); clear BK285; clear HB; have BK285 := n0_; have HB := n1_; clear n0_ n1_; (try clear hb); (try clear hb2); (try clear hk); (try clear hi)) | ((with_reducible refine gate_dst (N := 4) rfl ?_); refine box_event ?hg (N := 4) ?hd (cs := #[.int .i64 0, .int .i64 0, .string (⟨#[]⟩ : ByteArray)]) (t := 42) ?hr ?_; (case hd => rfl); (case hg => rfl); (case hr => first | (go_simp; done) | (go_simp; rfl)); intro gb292 hg w33 hbox hb; have n0_ := Aside0.mk (blk_below (g := gb285) (o := .cells #[.int .i64 a0_0, .int .i64 a0_1, .string a0_2] 42 (0, 0)) (zB BK285.out) hb); have n1_ := Aside0.mk (below_step (by repeat first | with_reducible exact HB.out | apply zS | refine below_set ?_ GE285.out | exact HB.out) hb); have n2_ := Aside0.mk (hbox); have n3_ := Aside0.mk ((by rw [hg]; exact (below_size (by repeat first | with_reducible exact HB.out | apply zS | refine below_set ?_ GE285.out | exact HB.out)) : w.heap.size ≤ gb292)); have n4_ := n3_; have n5_ := Aside0.mk ((by rw [hg]; exact Nat.ne_of_lt (blk_lt (g := gb285) (o := .cells #[.int .i64 a0_0, .int .i64 a0_1, .string a0_2] 42 (0, 0)) (zB BK285.out)) : gb285 ≠ gb292)); have n6_ := Aside0.mk ((by rw [hg]; exact Nat.ne_of_gt (blk_lt (g := gb285) (o := .cells #[.int .i64 a0_0, .int .i64 a0_1, .string a0_2] 42 (0, 0)) (zB BK285.out)) : gb292 ≠ gb285)); clear BK285; clear HB; have BK285 := n0_; have HB := n1_; have BK292 := n2_; have GW292 := n3_; have GE292 := n4_; have NB285_292 := n5_; have NB292_285 := n6_; clear n0_ n1_ n2_ n3_ n4_ n5_ n6_; clear hb hbox hg; have hnb34 := NB292_285.out; have hnc34 := NB285_292.out; obtain ⟨hcz35_0, hcz35_1, hcz35_2, hfz35_0, hfz35_1, hfz35_2⟩ := zC3 BK292.out; obtain ⟨hcz36_0, hcz36_1, hcz36_2, hfz36_0, hfz36_1, hfz36_2⟩ := zC3 BK285.out) | ((with_reducible refine gate_callee (f := 17) rfl ?_); refine goesL_ (some 22) rfl rfl Tryd.func17 (by kernel_rfl) rfl #[.agg #[.int .i64 a0_0, .int .i64 a0_1, .string a0_2]] rfl (by (try simp only [List.map_toArray, List.map_cons, List.map_nil]); first | done | rfl | (simp only [List.length_drop, List.length_take]; rfl)) ?_; (with_reducible refine (value_Flag.calls k a0_0 a0_1 a0_2 t293 t294 t295 t296 _ A10.out).mono ?_); rintro e w37 ⟨rfl, hb⟩; refine ⟨_, rfl, ?_⟩; have n0_ := Aside0.mk (blk_below (g := gb285) (o := .cells #[.int .i64 a0_0, .int .i64 a0_1, .string a0_2] 42 (0, 0)) (by refine zB (blk_far ?_ NB285_292.out _); refine zB ?_; refine blk_far ?_ NB285_292.out _; refine zB (blk_far ?_ NB285_292.out _); refine zB ?_; exact BK285.out) hb); have n1_ := Aside0.mk (blk_below (g := gb292) (o := .cells #[.int .i64 t289, .int .i64 t290, .string t291] 42 (0, 0)) (by refine zB ?_; refine blk_put (cs := #[.int .i64 t289, .int .i64 t290, .string (⟨#[]⟩ : ByteArray)]) ?_ 2 _ rfl; refine zB ?_; refine blk_put (cs := #[.int .i64 t289, .int .i64 0, .string (⟨#[]⟩ : ByteArray)]) ?_ 1 _ rfl; refine zB ?_; refine blk_put (cs := #[.int .i64 0, .int .i64 0, .string (⟨#[]⟩ : ByteArray)]) ?_ 0 _ rfl; refine zB ?_; exact BK292.out) hb); have n2_ := Aside0.mk (below_step (by repeat first | with_reducible exact HB.out | apply zS | refine below_set ?_ GE285.out | refine below_set ?_ GE292.out | exact HB.out) hb); clear BK285; clear BK292; clear HB; have BK285 := n0_; have BK292 := n1_; have HB := n2_; clear n0_ n1_ n2_; (try clear hb); (try clear hb2); (try clear hk); (try clear hi)) | ((with_reducible refine gate_dst (N := 6) rfl ?_); refine box_event ?hg (N := 6) ?hd (cs := #[.int .i64 0, .int .i64 0, .string (⟨#[]⟩ : ByteArray)]) (t := 42) ?hr ?_; (case hd => rfl); (case hg => rfl); (case hr => first | (go_simp; done) | (go_simp; rfl)); intro gb297 hg w38 hbox hb; have n0_ := Aside0.mk (blk_below (g := gb285) (o := .cells #[.int .i64 a0_0, .int .i64 a0_1, .string a0_2] 42 (0, 0)) (zB BK285.out) hb); have n1_ := Aside0.mk (blk_below (g := gb292) (o := .cells #[.int .i64 t289, .int .i64 t290, .string t291] 42 (0, 0)) (zB BK292.out) hb); have n2_ := Aside0.mk (below_step (by repeat first | with_reducible exact HB.out | apply zS | refine below_set ?_ GE285.out | refine below_set ?_ GE292.out | exact HB.out) hb); have n3_ := Aside0.mk (hbox); have n4_ := Aside0.mk ((by rw [hg]; exact (below_size (by repeat first | with_reducible exact HB.out | apply zS | refine below_set ?_ GE285.out | refine below_set ?_ GE292.out | exact HB.out)) : w.heap.size ≤ gb297)); have n5_ := n4_; have n6_ := Aside0.mk ((by rw [hg]; exact Nat.ne_of_lt (blk_lt (g := gb285) (o := .cells #[.int .i64 a0_0, .int .i64 a0_1, .string a0_2] 42 (0, 0)) (zB BK285.out)) : gb285 ≠ gb297)); have n7_ := Aside0.mk ((by rw [hg]; exact Nat.ne_of_gt (blk_lt (g := gb285) (o := .cells #[.int .i64 a0_0, .int .i64 a0_1, .string a0_2] 42 (0, 0)) (zB BK285.out)) : gb297 ≠ gb285)); have n8_ := Aside0.mk ((by rw [hg]; exact Nat.ne_of_lt (blk_lt (g := gb292) (o := .cells #[.int .i64 t289, .int .i64 t290, .string t291] 42 (0, 0)) (zB BK292.out)) : gb292 ≠ gb297)); have n9_ := Aside0.mk ((by rw [hg]; exact Nat.ne_of_gt (blk_lt (g := gb292) (o := .cells #[.int .i64 t289, .int .i64 t290, .string t291] 42 (0, 0)) (zB BK292.out)) : gb297 ≠ gb292)); clear BK285; clear BK292; clear HB; have BK285 := n0_; have BK292 := n1_; have HB := n2_; have BK297 := n3_; have GW297 := n4_; have GE297 := n5_; have NB285_297 := n6_; have NB297_285 := n7_; have NB292_297 := n8_; have NB297_292 := n9_; clear n0_ n1_ n2_ n3_ n4_ n5_ n6_ n7_ n8_ n9_; clear hb hbox hg; have hnb39 := NB297_285.out; have hnc39 := NB285_297.out; have hnb40 := NB297_292.out; have hnc40 := NB292_297.out; obtain ⟨hcz41_0, hcz41_1, hcz41_2, hfz41_0, hfz41_1, hfz41_2⟩ := zC3 BK297.out; obtain ⟨hcz42_0, hcz42_1, hcz42_2, hfz42_0, hfz42_1, hfz42_2⟩ := zC3 BK285.out) | ((with_reducible refine gate_callee (f := 18) rfl ?_); refine goesL_ (some 27) rfl rfl Tryd.func18 (by kernel_rfl) rfl #[.agg #[.int .i64 a0_0, .int .i64 a0_1, .string a0_2]] rfl (by (try simp only [List.map_toArray, List.map_cons, List.map_nil]); first | done | rfl | (simp only [List.length_drop, List.length_take]; rfl)) ?_; (with_reducible refine (value_Str.calls k a0_0 a0_1 a0_2 t298 t299 t300 t301 _ ?side1 A11.out).mono ?_); (case side1 => exact gl_2_1 (by repeat first | with_reducible exact HB.out | apply zS | refine below_set ?_ GE285.out | refine below_set ?_ GE292.out | refine below_set ?_ GE297.out | exact HB.out) hG); rintro e w43 ⟨rfl, hb⟩; refine ⟨_, rfl, ?_⟩; have n0_ := Aside0.mk (blk_below (g := gb285) (o := .cells #[.int .i64 a0_0, .int .i64 a0_1, .string a0_2] 42 (0, 0)) (by refine zB (blk_far ?_ NB285_297.out _); refine zB ?_; refine blk_far ?_ NB285_297.out _; refine zB (blk_far ?_ NB285_297.out _); refine zB ?_; exact BK285.out) hb); have n1_ := Aside0.mk (blk_below (g := gb292) (o := .cells #[.int .i64 t289, .int .i64 t290, .string t291] 42 (0, 0)) (by refine zB (blk_far ?_ NB292_297.out _); refine zB ?_; refine blk_far ?_ NB292_297.out _; refine zB (blk_far ?_ NB292_297.out _); refine zB ?_; exact BK292.out) hb); have n2_ := Aside0.mk (blk_below (g := gb297) (o := .cells #[.int .i64 t294, .int .i64 t295, .string t296] 42 (0, 0)) (by refine zB ?_; refine blk_put (cs := #[.int .i64 t294, .int .i64 t295, .string (⟨#[]⟩ : ByteArray)]) ?_ 2 _ rfl; refine zB ?_; refine blk_put (cs := #[.int .i64 t294, .int .i64 0, .string (⟨#[]⟩ : ByteArray)]) ?_ 1 _ rfl; refine zB ?_; refine blk_put (cs := #[.int .i64 0, .int .i64 0, .string (⟨#[]⟩ : ByteArray)]) ?_ 0 _ rfl; refine zB ?_; exact BK297.out) hb); have n3_ := Aside0.mk (below_step (by repeat first | with_reducible exact HB.out | apply zS | refine below_set ?_ GE285.out | refine below_set ?_ GE292.out | refine below_set ?_ GE297.out | exact HB.out) hb); clear BK285; clear BK292; clear BK297; clear HB; have BK285 := n0_; have BK292 := n1_; have BK297 := n2_; have HB := n3_; clear n0_ n1_ n2_ n3_; (try clear hb); (try clear hb2); (try clear hk); (try clear hi)) | ((with_reducible refine gate_dst (N := 8) rfl ?_); refine box_event ?hg (N := 8) ?hd (cs := #[.int .i64 0, .int .i64 0, .string (⟨#[]⟩ : ByteArray)]) (t := 42) ?hr ?_; (case hd => rfl); (case hg => rfl); (case hr => first | (go_simp; done) | (go_simp; rfl)); intro gb302 hg w44 hbox hb; have n0_ := Aside0.mk (blk_below (g := gb285) (o := .cells #[.int .i64 a0_0, .int .i64 a0_1, .string a0_2] 42 (0, 0)) (zB BK285.out) hb); have n1_ := Aside0.mk (blk_below (g := gb292) (o := .cells #[.int .i64 t289, .int .i64 t290, .string t291] 42 (0, 0)) (zB BK292.out) hb); have n2_ := Aside0.mk (blk_below (g := gb297) (o := .cells #[.int .i64 t294, .int .i64 t295, .string t296] 42 (0, 0)) (zB BK297.out) hb); have n3_ := Aside0.mk (below_step (by repeat first | with_reducible exact HB.out | apply zS | refine below_set ?_ GE285.out | refine below_set ?_ GE292.out | refine below_set ?_ GE297.out | exact HB.out) hb); have n4_ := Aside0.mk (hbox); have n5_ := Aside0.mk ((by rw [hg]; exact (below_size (by repeat first | with_reducible exact HB.out | apply zS | refine below_set ?_ GE285.out | refine below_set ?_ GE292.out | refine below_set ?_ GE297.out | exact HB.out)) : w.heap.size ≤ gb302)); have n6_ := n5_; have n7_ := Aside0.mk ((by rw [hg]; exact Nat.ne_of_lt (blk_lt (g := gb285) (o := .cells #[.int .i64 a0_0, .int .i64 a0_1, .string a0_2] 42 (0, 0)) (zB BK285.out)) : gb285 ≠ gb302)); have n8_ := Aside0.mk ((by rw [hg]; exact Nat.ne_of_gt (blk_lt (g := gb285) (o := .cells #[.int .i64 a0_0, .int .i64 a0_1, .string a0_2] 42 (0, 0)) (zB BK285.out)) : gb302 ≠ gb285)); have n9_ := Aside0.mk ((by rw [hg]; exact Nat.ne_of_lt (blk_lt (g := gb292) (o := .cells #[.int .i64 t289, .int .i64 t290, .string t291] 42 (0, 0)) (zB BK292.out)) : gb292 ≠ gb302)); have n10_ := Aside0.mk ((by rw [hg]; exact Nat.ne_of_gt (blk_lt (g := gb292) (o := .cells #[.int .i64 t289, .int .i64 t290, .string t291] 42 (0, 0)) (zB BK292.out)) : gb302 ≠ gb292)); have n11_ := Aside0.mk ((by rw [hg]; exact Nat.ne_of_lt (blk_lt (g := gb297) (o := .cells #[.int .i64 t294, .int .i64 t295, .string t296] 42 (0, 0)) (zB BK297.out)) : gb297 ≠ gb302)); have n12_ := Aside0.mk ((by rw [hg]; exact Nat.ne_of_gt (blk_lt (g := gb297) (o := .cells #[.int .i64 t294, .int .i64 t295, .string t296] 42 (0, 0)) (zB BK297.out)) : gb302 ≠ gb297)); clear BK285; clear BK292; clear BK297; clear HB; have BK285 := n0_; have BK292 := n1_; have BK297 := n2_; have HB := n3_; have BK302 := n4_; have GW302 := n5_; have GE302 := n6_; have NB285_302 := n7_; have NB302_285 := n8_; have NB292_302 := n9_; have NB302_292 := n10_; have NB297_302 := n11_; have NB302_297 := n12_; clear n0_ n1_ n2_ n3_ n4_ n5_ n6_ n7_ n8_ n9_ n10_ n11_ n12_; clear hb hbox hg; have hnb45 := NB302_285.out; have hnc45 := NB285_302.out; have hnb46 := NB302_292.out; have hnc46 := NB292_302.out; have hnb47 := NB302_297.out; have hnc47 := NB297_302.out; obtain ⟨hcz48_0, hcz48_1, hcz48_2, hfz48_0, hfz48_1, hfz48_2⟩ := zC3 BK302.out))
                  have n0_ : Aside0 ((((w44.setCell ⟨gb302, 0, none⟩ (.int .i64 t299)).setCell ⟨gb302, 1, none⟩ (.int .i64 t300)).setCell ⟨gb302, 2, none⟩ (.string t301)).heap[gb285]? = some (.cells #[.int .i64 a0_0, .int .i64 a0_1, .string a0_2] 42 (0, 0))) := ⟨by refine zB (blk_far ?_ NB285_302.out _); refine zB ?_; refine blk_far ?_ NB285_302.out _; refine zB (blk_far ?_ NB285_302.out _); refine zB ?_; exact BK285.out⟩
                  have n1_ : Aside0 ((((w44.setCell ⟨gb302, 0, none⟩ (.int .i64 t299)).setCell ⟨gb302, 1, none⟩ (.int .i64 t300)).setCell ⟨gb302, 2, none⟩ (.string t301)).heap[gb292]? = some (.cells #[.int .i64 t289, .int .i64 t290, .string t291] 42 (0, 0))) := ⟨by refine zB (blk_far ?_ NB292_302.out _); refine zB ?_; refine blk_far ?_ NB292_302.out _; refine zB (blk_far ?_ NB292_302.out _); refine zB ?_; exact BK292.out⟩
                  have n2_ : Aside0 ((((w44.setCell ⟨gb302, 0, none⟩ (.int .i64 t299)).setCell ⟨gb302, 1, none⟩ (.int .i64 t300)).setCell ⟨gb302, 2, none⟩ (.string t301)).heap[gb297]? = some (.cells #[.int .i64 t294, .int .i64 t295, .string t296] 42 (0, 0))) := ⟨by refine zB (blk_far ?_ NB297_302.out _); refine zB ?_; refine blk_far ?_ NB297_302.out _; refine zB (blk_far ?_ NB297_302.out _); refine zB ?_; exact BK297.out⟩
                  have n3_ : Aside0 ((((w44.setCell ⟨gb302, 0, none⟩ (.int .i64 t299)).setCell ⟨gb302, 1, none⟩ (.int .i64 t300)).setCell ⟨gb302, 2, none⟩ (.string t301)).heap[gb302]? = some (.cells #[.int .i64 t299, .int .i64 t300, .string t301] 42 (0, 0))) := ⟨by refine zB ?_; refine blk_put (cs := #[.int .i64 t299, .int .i64 t300, .string (⟨#[]⟩ : ByteArray)]) ?_ 2 _ rfl; refine zB ?_; refine blk_put (cs := #[.int .i64 t299, .int .i64 0, .string (⟨#[]⟩ : ByteArray)]) ?_ 1 _ rfl; refine zB ?_; refine blk_put (cs := #[.int .i64 0, .int .i64 0, .string (⟨#[]⟩ : ByteArray)]) ?_ 0 _ rfl; refine zB ?_; exact BK302.out⟩
                  have n4_ : Aside0 (Below w.heap.size w (((w44.setCell ⟨gb302, 0, none⟩ (.int .i64 t299)).setCell ⟨gb302, 1, none⟩ (.int .i64 t300)).setCell ⟨gb302, 2, none⟩ (.string t301))) := ⟨by repeat first | with_reducible exact HB.out | apply zS | refine below_set ?_ GE285.out | refine below_set ?_ GE292.out | refine below_set ?_ GE297.out | refine below_set ?_ GE302.out | exact HB.out⟩
                  (try clear BK285)
                  (try clear BK292)
                  (try clear BK297)
                  (try clear BK302)
                  (try clear HB)
                  generalize (((w44.setCell ⟨gb302, 0, none⟩ (.int .i64 t299)).setCell ⟨gb302, 1, none⟩ (.int .i64 t300)).setCell ⟨gb302, 2, none⟩ (.string t301)) = w49 at n0_ n1_ n2_ n3_ n4_ ⊢
                  have BK285 := n0_
                  have BK292 := n1_
                  have BK297 := n2_
                  have BK302 := n3_
                  have HB := n4_
                  clear n0_ n1_ n2_ n3_ n4_
                  have n0_ := Aside0.mk (blk_drew BK285.out)
                  have n1_ := Aside0.mk (blk_drew BK292.out)
                  have n2_ := Aside0.mk (blk_drew BK297.out)
                  have n3_ := Aside0.mk (blk_drew BK302.out)
                  have n4_ := Aside0.mk (below_drew1 HB.out)
                  clear BK285
                  clear BK292
                  clear BK297
                  clear BK302
                  clear HB
                  have BK285 := n0_
                  have BK292 := n1_
                  have BK297 := n2_
                  have BK302 := n3_
                  have HB := n4_
                  clear n0_ n1_ n2_ n3_ n4_
                  refine start_ (n := 12) (S := fun w' => True) (ds := []) #[false, false, false, false, false, false, false, false, false, false, false, false] (by kernel_rfl) rfl rfl trivial (fun hHeld => ?_); refine with_tabW pannierlaw03_ValueAs.tab6 pannierlaw03_ValueAs.bits6 (fun HT_ HW_ => ?_)
                  generalize w49.drew = w50 at BK285 BK292 BK297 BK302 HB hHeld ⊢
                  refine inv_at [0, 1, 2, 3, 4, 5, 6, 7, 8, 9, 10, 11] (fun a0_ b a w' => ∃ (gb321 : Nat) (gb322 : Nat) (gb323 : Nat) (m6_ : Value) (m7_ : Value) (m8_ : Value), a = putSel a0_ b [(0, 30, .agg #[.int .i64 a0_0, .int .i64 a0_1, .string a0_2]), (1, 31, .agg #[.int .i64 t303, .bool t304, .string t305, .int .i64 t306, .int .i64 t307, .string t308]), (2, 32, .agg #[.int .i64 a0_0, .int .i64 a0_1, .string a0_2]), (3, 33, .agg #[.int .i64 t309, .bool t310, .string t311, .int .i64 t312, .int .i64 t313, .string t314]), (4, 34, .agg #[.int .i64 a0_0, .int .i64 a0_1, .string a0_2]), (5, 35, .agg #[.int .i64 t315, .bool t316, .string t317, .int .i64 t318, .int .i64 t319, .string t320]), (6, 9, m6_), (7, 10, m7_), (8, 11, m8_)] ∧ (w'.heap[gb285]? = some (.cells #[.int .i64 a0_0, .int .i64 a0_1, .string a0_2] 42 (0, 0))) ∧ (w'.heap[gb292]? = some (.cells #[.int .i64 t289, .int .i64 t290, .string t291] 42 (0, 0))) ∧ (w'.heap[gb297]? = some (.cells #[.int .i64 t294, .int .i64 t295, .string t296] 42 (0, 0))) ∧ (w'.heap[gb302]? = some (.cells #[.int .i64 t299, .int .i64 t300, .string t301] 42 (0, 0))) ∧ (Below w.heap.size w w') ∧ (b 6 = true → b 7 = true → gb322 ≠ gb321) ∧ (b 6 = true → b 7 = true → gb321 ≠ gb322) ∧ (b 6 = true → b 8 = true → gb323 ≠ gb321) ∧ (b 6 = true → b 8 = true → gb321 ≠ gb323) ∧ (b 7 = true → b 8 = true → gb323 ≠ gb322) ∧ (b 7 = true → b 8 = true → gb322 ≠ gb323) ∧ (b 6 = true → b 9 = false → w'.heap[gb321]? = some (.cells #[.int .i64 0, .bool false, .string (⟨#[]⟩ : ByteArray), .int .i64 0, .int .i64 0, .string (⟨#[]⟩ : ByteArray)] 51 (0, 0))) ∧ (b 6 = true → w.heap.size ≤ gb321) ∧ (b 6 = true → w.heap.size ≤ gb321) ∧ (b 6 = true → gb285 ≠ gb321) ∧ (b 6 = true → gb321 ≠ gb285) ∧ (b 6 = true → gb292 ≠ gb321) ∧ (b 6 = true → gb321 ≠ gb292) ∧ (b 6 = true → gb297 ≠ gb321) ∧ (b 6 = true → gb321 ≠ gb297) ∧ (b 6 = true → gb302 ≠ gb321) ∧ (b 6 = true → gb321 ≠ gb302) ∧ (b 7 = true → b 10 = false → w'.heap[gb322]? = some (.cells #[.int .i64 0, .bool false, .string (⟨#[]⟩ : ByteArray), .int .i64 0, .int .i64 0, .string (⟨#[]⟩ : ByteArray)] 51 (0, 0))) ∧ (b 7 = true → w.heap.size ≤ gb322) ∧ (b 7 = true → w.heap.size ≤ gb322) ∧ (b 7 = true → gb285 ≠ gb322) ∧ (b 7 = true → gb322 ≠ gb285) ∧ (b 7 = true → gb292 ≠ gb322) ∧ (b 7 = true → gb322 ≠ gb292) ∧ (b 7 = true → gb297 ≠ gb322) ∧ (b 7 = true → gb322 ≠ gb297) ∧ (b 7 = true → gb302 ≠ gb322) ∧ (b 7 = true → gb322 ≠ gb302) ∧ (b 8 = true → b 11 = false → w'.heap[gb323]? = some (.cells #[.int .i64 0, .bool false, .string (⟨#[]⟩ : ByteArray), .int .i64 0, .int .i64 0, .string (⟨#[]⟩ : ByteArray)] 51 (0, 0))) ∧ (b 8 = true → w.heap.size ≤ gb323) ∧ (b 8 = true → w.heap.size ≤ gb323) ∧ (b 8 = true → gb285 ≠ gb323) ∧ (b 8 = true → gb323 ≠ gb285) ∧ (b 8 = true → gb292 ≠ gb323) ∧ (b 8 = true → gb323 ≠ gb292) ∧ (b 8 = true → gb297 ≠ gb323) ∧ (b 8 = true → gb323 ≠ gb297) ∧ (b 8 = true → gb302 ≠ gb323) ∧ (b 8 = true → gb323 ≠ gb302) ∧ (b 9 = true → w'.heap[gb321]? = some (.cells #[.int .i64 t303, .bool t304, .string t305, .int .i64 t306, .int .i64 t307, .string t308] 51 (0, 0))) ∧ (b 10 = true → w'.heap[gb322]? = some (.cells #[.int .i64 t309, .bool t310, .string t311, .int .i64 t312, .int .i64 t313, .string t314] 51 (0, 0))) ∧ (b 11 = true → w'.heap[gb323]? = some (.cells #[.int .i64 t315, .bool t316, .string t317, .int .i64 t318, .int .i64 t319, .string t320] 51 (0, 0))) ∧ (b 6 = true → (m6_ : Value) = .pointer (some ⟨gb321, 0, none⟩)) ∧ (b 7 = true → (m7_ : Value) = .pointer (some ⟨gb322, 0, none⟩)) ∧ (b 8 = true → (m8_ : Value) = .pointer (some ⟨gb323, 0, none⟩))) HT_.out HW_.out (by kernel_rfl) (by kernel_rfl) ?_ ?_ ?_
                  · exact ⟨0, 0, 0, .bool false, .bool false, .bool false, by simp only [putSel, Bool.false_eq_true, if_false], BK285.out, BK292.out, BK297.out, BK302.out, HB.out, fun h_ => absurd h_ (by decide), fun h_ => absurd h_ (by decide), fun h_ => absurd h_ (by decide), fun h_ => absurd h_ (by decide), fun h_ => absurd h_ (by decide), fun h_ => absurd h_ (by decide), fun h_ => absurd h_ (by decide), fun h_ => absurd h_ (by decide), fun h_ => absurd h_ (by decide), fun h_ => absurd h_ (by decide), fun h_ => absurd h_ (by decide), fun h_ => absurd h_ (by decide), fun h_ => absurd h_ (by decide), fun h_ => absurd h_ (by decide), fun h_ => absurd h_ (by decide), fun h_ => absurd h_ (by decide), fun h_ => absurd h_ (by decide), fun h_ => absurd h_ (by decide), fun h_ => absurd h_ (by decide), fun h_ => absurd h_ (by decide), fun h_ => absurd h_ (by decide), fun h_ => absurd h_ (by decide), fun h_ => absurd h_ (by decide), fun h_ => absurd h_ (by decide), fun h_ => absurd h_ (by decide), fun h_ => absurd h_ (by decide), fun h_ => absurd h_ (by decide), fun h_ => absurd h_ (by decide), fun h_ => absurd h_ (by decide), fun h_ => absurd h_ (by decide), fun h_ => absurd h_ (by decide), fun h_ => absurd h_ (by decide), fun h_ => absurd h_ (by decide), fun h_ => absurd h_ (by decide), fun h_ => absurd h_ (by decide), fun h_ => absurd h_ (by decide), fun h_ => absurd h_ (by decide), fun h_ => absurd h_ (by decide), fun h_ => absurd h_ (by decide), fun h_ => absurd h_ (by decide), fun h_ => absurd h_ (by decide), fun h_ => absurd h_ (by decide), fun h_ => absurd h_ (by decide), fun h_ => absurd h_ (by decide), fun h_ => absurd h_ (by decide)⟩
                  · skip
                    clear BK285 BK292 BK297 BK302 HB
                    refine steps_cons ?_ ?_
                    · rintro b a w' ⟨gb321, gb322, gb323, m6_, m7_, m8_, ha, Q_BK285, Q_BK292, Q_BK297, Q_BK302, Q_HB, Q_NB322_321, Q_NB321_322, Q_NB323_321, Q_NB321_323, Q_NB323_322, Q_NB322_323, Q_BK321, Q_GW321, Q_GE321, Q_NB285_321, Q_NB321_285, Q_NB292_321, Q_NB321_292, Q_NB297_321, Q_NB321_297, Q_NB302_321, Q_NB321_302, Q_BK322, Q_GW322, Q_GE322, Q_NB285_322, Q_NB322_285, Q_NB292_322, Q_NB322_292, Q_NB297_322, Q_NB322_297, Q_NB302_322, Q_NB322_302, Q_BK323, Q_GW323, Q_GE323, Q_NB285_323, Q_NB323_285, Q_NB292_323, Q_NB323_292, Q_NB297_323, Q_NB323_297, Q_NB302_323, Q_NB323_302, Q_BK321_e9, Q_BK322_e10, Q_BK323_e11, Q_X6_, Q_X7_, Q_X8_⟩ hb_ hon hoff
                      refine ⟨_, rfl, fun K hK => ?_⟩
                      have e1 : a.tmps[1]? = some (.pointer (some ⟨gb285, 0, none⟩)) := by rw [ha]; exact (putSel_off rfl).trans rfl
                      replace ha := Aside0.mk ha
                      have BK285 := Aside0.mk Q_BK285
                      have BK292 := Aside0.mk Q_BK292
                      have BK297 := Aside0.mk Q_BK297
                      have BK302 := Aside0.mk Q_BK302
                      have HB := Aside0.mk Q_HB
                      have hc0_ : w'.cell? ⟨gb285, 0, none⟩ = some (.int .i64 a0_0) := (blk_cell BK285.out 0).trans rfl
                      have hc1_ : w'.cell? ⟨gb285, 1, none⟩ = some (.int .i64 a0_1) := (blk_cell BK285.out 1).trans rfl
                      have hc2_ : w'.cell? ⟨gb285, 2, none⟩ = some (.string a0_2) := (blk_cell BK285.out 2).trans rfl
                      refine value_ (w1 := w') (v := .agg #[.int .i64 a0_0, .int .i64 a0_1, .string a0_2]) (by rfl) rfl ?_ ?_
                      · go_simp
                        (try simp only [i64_w])
                        try rfl
                      refine hK.out _ _ ⟨gb321, gb322, gb323, m6_, m7_, m8_, (by rw [ha.out]; exact putSel_upk 0 hb_ rfl rfl rfl), Q_BK285, Q_BK292, Q_BK297, Q_BK302, Q_HB, Q_NB322_321, Q_NB321_322, Q_NB323_321, Q_NB321_323, Q_NB323_322, Q_NB322_323, Q_BK321, Q_GW321, Q_GE321, Q_NB285_321, Q_NB321_285, Q_NB292_321, Q_NB321_292, Q_NB297_321, Q_NB321_297, Q_NB302_321, Q_NB321_302, Q_BK322, Q_GW322, Q_GE322, Q_NB285_322, Q_NB322_285, Q_NB292_322, Q_NB322_292, Q_NB297_322, Q_NB322_297, Q_NB302_322, Q_NB322_302, Q_BK323, Q_GW323, Q_GE323, Q_NB285_323, Q_NB323_285, Q_NB292_323, Q_NB323_292, Q_NB297_323, Q_NB323_297, Q_NB302_323, Q_NB323_302, fun h0_ => absurd ((hoff 9 (by kernel_rfl)).symm.trans h0_) (by decide), fun h0_ => absurd ((hoff 10 (by kernel_rfl)).symm.trans h0_) (by decide), fun h0_ => absurd ((hoff 11 (by kernel_rfl)).symm.trans h0_) (by decide), Q_X6_, Q_X7_, Q_X8_⟩
                    refine steps_cons ?_ ?_
                    · rintro b a w' ⟨gb321, gb322, gb323, m6_, m7_, m8_, ha, Q_BK285, Q_BK292, Q_BK297, Q_BK302, Q_HB, Q_NB322_321, Q_NB321_322, Q_NB323_321, Q_NB321_323, Q_NB323_322, Q_NB322_323, Q_BK321, Q_GW321, Q_GE321, Q_NB285_321, Q_NB321_285, Q_NB292_321, Q_NB321_292, Q_NB297_321, Q_NB321_297, Q_NB302_321, Q_NB321_302, Q_BK322, Q_GW322, Q_GE322, Q_NB285_322, Q_NB322_285, Q_NB292_322, Q_NB322_292, Q_NB297_322, Q_NB322_297, Q_NB302_322, Q_NB322_302, Q_BK323, Q_GW323, Q_GE323, Q_NB285_323, Q_NB323_285, Q_NB292_323, Q_NB323_292, Q_NB297_323, Q_NB323_297, Q_NB302_323, Q_NB323_302, Q_BK321_e9, Q_BK322_e10, Q_BK323_e11, Q_X6_, Q_X7_, Q_X8_⟩ hb_ hon hoff
                      refine ⟨_, rfl, fun K hK => ?_⟩
                      have e30 : a.tmps[30]? = some (.agg #[.int .i64 a0_0, .int .i64 a0_1, .string a0_2]) := by rw [ha]; exact putSel_on (e := (0, 30, .agg #[.int .i64 a0_0, .int .i64 a0_1, .string a0_2])) 0 rfl rfl (hon 0 (by kernel_rfl)) rfl
                      replace ha := Aside0.mk ha
                      have BK285 := Aside0.mk Q_BK285
                      have BK292 := Aside0.mk Q_BK292
                      have BK297 := Aside0.mk Q_BK297
                      have BK302 := Aside0.mk Q_BK302
                      have HB := Aside0.mk Q_HB
                      refine goes_ Tryd.func19 (by kernel_rfl) rfl #[.agg #[.int .i64 a0_0, .int .i64 a0_1, .string a0_2]] (by rfl) rfl rfl (by first | (simp only [List.map_toArray, List.map_cons, List.map_nil, Act.eval, Array.getD_eq_getD_getElem?, Option.getD_some, e30]; done) | (simp only [List.map_toArray, List.map_cons, List.map_nil, Act.eval, Array.getD_eq_getD_getElem?, Option.getD_some, e30]; rfl)) ?_
                      with_reducible refine (pannierref03_Num.calls k a0_0 a0_1 a0_2 t303 t304 t305 t306 t307 t308 _ A12.out).mono ?_
                      rintro e w51 ⟨rfl, hb⟩
                      refine ⟨_, rfl, ?_⟩
                      have n0_ := Aside0.mk (blk_below (g := gb285) (o := .cells #[.int .i64 a0_0, .int .i64 a0_1, .string a0_2] 42 (0, 0)) (zB BK285.out) hb)
                      have n1_ := Aside0.mk (blk_below (g := gb292) (o := .cells #[.int .i64 t289, .int .i64 t290, .string t291] 42 (0, 0)) (zB BK292.out) hb)
                      have n2_ := Aside0.mk (blk_below (g := gb297) (o := .cells #[.int .i64 t294, .int .i64 t295, .string t296] 42 (0, 0)) (zB BK297.out) hb)
                      have n3_ := Aside0.mk (blk_below (g := gb302) (o := .cells #[.int .i64 t299, .int .i64 t300, .string t301] 42 (0, 0)) (zB BK302.out) hb)
                      have n4_ := Aside0.mk (below_step (by repeat first | with_reducible exact HB.out | apply zS | refine below_set ?_ GE285.out | refine below_set ?_ GE292.out | refine below_set ?_ GE297.out | refine below_set ?_ GE302.out | exact HB.out) hb)
                      have z_BK321 := fun (h0_ : b 6 = true) (h1_ : b 9 = false) => (show w51.heap[gb321]? = some (.cells #[.int .i64 0, .bool false, .string (⟨#[]⟩ : ByteArray), .int .i64 0, .int .i64 0, .string (⟨#[]⟩ : ByteArray)] 51 (0, 0)) from by first | exact (blk_below (g := gb321) (o := .cells #[.int .i64 0, .bool false, .string (⟨#[]⟩ : ByteArray), .int .i64 0, .int .i64 0, .string (⟨#[]⟩ : ByteArray)] 51 (0, 0)) (by exact zB (Q_BK321 h0_ h1_)) hb))
                      have z_BK322 := fun (h0_ : b 7 = true) (h1_ : b 10 = false) => (show w51.heap[gb322]? = some (.cells #[.int .i64 0, .bool false, .string (⟨#[]⟩ : ByteArray), .int .i64 0, .int .i64 0, .string (⟨#[]⟩ : ByteArray)] 51 (0, 0)) from by first | exact (blk_below (g := gb322) (o := .cells #[.int .i64 0, .bool false, .string (⟨#[]⟩ : ByteArray), .int .i64 0, .int .i64 0, .string (⟨#[]⟩ : ByteArray)] 51 (0, 0)) (by exact zB (Q_BK322 h0_ h1_)) hb))
                      have z_BK323 := fun (h0_ : b 8 = true) (h1_ : b 11 = false) => (show w51.heap[gb323]? = some (.cells #[.int .i64 0, .bool false, .string (⟨#[]⟩ : ByteArray), .int .i64 0, .int .i64 0, .string (⟨#[]⟩ : ByteArray)] 51 (0, 0)) from by first | exact (blk_below (g := gb323) (o := .cells #[.int .i64 0, .bool false, .string (⟨#[]⟩ : ByteArray), .int .i64 0, .int .i64 0, .string (⟨#[]⟩ : ByteArray)] 51 (0, 0)) (by exact zB (Q_BK323 h0_ h1_)) hb))
                      clear BK285
                      clear BK292
                      clear BK297
                      clear BK302
                      clear HB
                      have BK285 := n0_
                      have BK292 := n1_
                      have BK297 := n2_
                      have BK302 := n3_
                      have HB := n4_
                      clear n0_ n1_ n2_ n3_ n4_
                      (try clear hb)
                      (try clear hb2)
                      (try clear hk)
                      (try clear hi)
                      refine hK.out _ _ ⟨gb321, gb322, gb323, m6_, m7_, m8_, (by rw [ha.out]; exact putSel_upk 1 hb_ rfl rfl rfl), (zB BK285.out), (zB BK292.out), (zB BK297.out), (zB BK302.out), (by repeat first | with_reducible exact HB.out | apply zS | refine below_set ?_ GE285.out | refine below_set ?_ GE292.out | refine below_set ?_ GE297.out | refine below_set ?_ GE302.out | exact HB.out), Q_NB322_321, Q_NB321_322, Q_NB323_321, Q_NB321_323, Q_NB323_322, Q_NB322_323, z_BK321, Q_GW321, Q_GE321, Q_NB285_321, Q_NB321_285, Q_NB292_321, Q_NB321_292, Q_NB297_321, Q_NB321_297, Q_NB302_321, Q_NB321_302, z_BK322, Q_GW322, Q_GE322, Q_NB285_322, Q_NB322_285, Q_NB292_322, Q_NB322_292, Q_NB297_322, Q_NB322_297, Q_NB302_322, Q_NB322_302, z_BK323, Q_GW323, Q_GE323, Q_NB285_323, Q_NB323_285, Q_NB292_323, Q_NB323_292, Q_NB297_323, Q_NB323_297, Q_NB302_323, Q_NB323_302, fun h0_ => absurd ((hoff 9 (by kernel_rfl)).symm.trans h0_) (by decide), fun h0_ => absurd ((hoff 10 (by kernel_rfl)).symm.trans h0_) (by decide), fun h0_ => absurd ((hoff 11 (by kernel_rfl)).symm.trans h0_) (by decide), Q_X6_, Q_X7_, Q_X8_⟩
                    refine steps_cons ?_ ?_
                    · rintro b a w' ⟨gb321, gb322, gb323, m6_, m7_, m8_, ha, Q_BK285, Q_BK292, Q_BK297, Q_BK302, Q_HB, Q_NB322_321, Q_NB321_322, Q_NB323_321, Q_NB321_323, Q_NB323_322, Q_NB322_323, Q_BK321, Q_GW321, Q_GE321, Q_NB285_321, Q_NB321_285, Q_NB292_321, Q_NB321_292, Q_NB297_321, Q_NB321_297, Q_NB302_321, Q_NB321_302, Q_BK322, Q_GW322, Q_GE322, Q_NB285_322, Q_NB322_285, Q_NB292_322, Q_NB322_292, Q_NB297_322, Q_NB322_297, Q_NB302_322, Q_NB322_302, Q_BK323, Q_GW323, Q_GE323, Q_NB285_323, Q_NB323_285, Q_NB292_323, Q_NB323_292, Q_NB297_323, Q_NB323_297, Q_NB302_323, Q_NB323_302, Q_BK321_e9, Q_BK322_e10, Q_BK323_e11, Q_X6_, Q_X7_, Q_X8_⟩ hb_ hon hoff
                      refine ⟨_, rfl, fun K hK => ?_⟩
                      have e1 : a.tmps[1]? = some (.pointer (some ⟨gb285, 0, none⟩)) := by rw [ha]; exact (putSel_off rfl).trans rfl
                      replace ha := Aside0.mk ha
                      have BK285 := Aside0.mk Q_BK285
                      have BK292 := Aside0.mk Q_BK292
                      have BK297 := Aside0.mk Q_BK297
                      have BK302 := Aside0.mk Q_BK302
                      have HB := Aside0.mk Q_HB
                      have hc0_ : w'.cell? ⟨gb285, 0, none⟩ = some (.int .i64 a0_0) := (blk_cell BK285.out 0).trans rfl
                      have hc1_ : w'.cell? ⟨gb285, 1, none⟩ = some (.int .i64 a0_1) := (blk_cell BK285.out 1).trans rfl
                      have hc2_ : w'.cell? ⟨gb285, 2, none⟩ = some (.string a0_2) := (blk_cell BK285.out 2).trans rfl
                      refine value_ (w1 := w') (v := .agg #[.int .i64 a0_0, .int .i64 a0_1, .string a0_2]) (by rfl) rfl ?_ ?_
                      · go_simp
                        (try simp only [i64_w])
                        try rfl
                      refine hK.out _ _ ⟨gb321, gb322, gb323, m6_, m7_, m8_, (by rw [ha.out]; exact putSel_upk 2 hb_ rfl rfl rfl), Q_BK285, Q_BK292, Q_BK297, Q_BK302, Q_HB, Q_NB322_321, Q_NB321_322, Q_NB323_321, Q_NB321_323, Q_NB323_322, Q_NB322_323, Q_BK321, Q_GW321, Q_GE321, Q_NB285_321, Q_NB321_285, Q_NB292_321, Q_NB321_292, Q_NB297_321, Q_NB321_297, Q_NB302_321, Q_NB321_302, Q_BK322, Q_GW322, Q_GE322, Q_NB285_322, Q_NB322_285, Q_NB292_322, Q_NB322_292, Q_NB297_322, Q_NB322_297, Q_NB302_322, Q_NB322_302, Q_BK323, Q_GW323, Q_GE323, Q_NB285_323, Q_NB323_285, Q_NB292_323, Q_NB323_292, Q_NB297_323, Q_NB323_297, Q_NB302_323, Q_NB323_302, fun h0_ => absurd ((hoff 9 (by kernel_rfl)).symm.trans h0_) (by decide), fun h0_ => absurd ((hoff 10 (by kernel_rfl)).symm.trans h0_) (by decide), fun h0_ => absurd ((hoff 11 (by kernel_rfl)).symm.trans h0_) (by decide), Q_X6_, Q_X7_, Q_X8_⟩
                    refine steps_cons ?_ ?_
                    · rintro b a w' ⟨gb321, gb322, gb323, m6_, m7_, m8_, ha, Q_BK285, Q_BK292, Q_BK297, Q_BK302, Q_HB, Q_NB322_321, Q_NB321_322, Q_NB323_321, Q_NB321_323, Q_NB323_322, Q_NB322_323, Q_BK321, Q_GW321, Q_GE321, Q_NB285_321, Q_NB321_285, Q_NB292_321, Q_NB321_292, Q_NB297_321, Q_NB321_297, Q_NB302_321, Q_NB321_302, Q_BK322, Q_GW322, Q_GE322, Q_NB285_322, Q_NB322_285, Q_NB292_322, Q_NB322_292, Q_NB297_322, Q_NB322_297, Q_NB302_322, Q_NB322_302, Q_BK323, Q_GW323, Q_GE323, Q_NB285_323, Q_NB323_285, Q_NB292_323, Q_NB323_292, Q_NB297_323, Q_NB323_297, Q_NB302_323, Q_NB323_302, Q_BK321_e9, Q_BK322_e10, Q_BK323_e11, Q_X6_, Q_X7_, Q_X8_⟩ hb_ hon hoff
                      refine ⟨_, rfl, fun K hK => ?_⟩
                      have e32 : a.tmps[32]? = some (.agg #[.int .i64 a0_0, .int .i64 a0_1, .string a0_2]) := by rw [ha]; exact putSel_on (e := (2, 32, .agg #[.int .i64 a0_0, .int .i64 a0_1, .string a0_2])) 2 rfl rfl (hon 2 (by kernel_rfl)) rfl
                      replace ha := Aside0.mk ha
                      have BK285 := Aside0.mk Q_BK285
                      have BK292 := Aside0.mk Q_BK292
                      have BK297 := Aside0.mk Q_BK297
                      have BK302 := Aside0.mk Q_BK302
                      have HB := Aside0.mk Q_HB
                      refine goes_ Tryd.func20 (by kernel_rfl) rfl #[.agg #[.int .i64 a0_0, .int .i64 a0_1, .string a0_2]] (by rfl) rfl rfl (by first | (simp only [List.map_toArray, List.map_cons, List.map_nil, Act.eval, Array.getD_eq_getD_getElem?, Option.getD_some, e32]; done) | (simp only [List.map_toArray, List.map_cons, List.map_nil, Act.eval, Array.getD_eq_getD_getElem?, Option.getD_some, e32]; rfl)) ?_
                      with_reducible refine (pannierref03_Flag.calls a0_0 a0_1 a0_2 t309 t310 t311 t312 t313 t314 _ A13.out).mono ?_
                      rintro e w53 ⟨rfl, hb⟩
                      refine ⟨_, rfl, ?_⟩
                      have n0_ := Aside0.mk (blk_below (g := gb285) (o := .cells #[.int .i64 a0_0, .int .i64 a0_1, .string a0_2] 42 (0, 0)) (zB BK285.out) hb)
                      have n1_ := Aside0.mk (blk_below (g := gb292) (o := .cells #[.int .i64 t289, .int .i64 t290, .string t291] 42 (0, 0)) (zB BK292.out) hb)
                      have n2_ := Aside0.mk (blk_below (g := gb297) (o := .cells #[.int .i64 t294, .int .i64 t295, .string t296] 42 (0, 0)) (zB BK297.out) hb)
                      have n3_ := Aside0.mk (blk_below (g := gb302) (o := .cells #[.int .i64 t299, .int .i64 t300, .string t301] 42 (0, 0)) (zB BK302.out) hb)
                      have n4_ := Aside0.mk (below_step (by repeat first | with_reducible exact HB.out | apply zS | refine below_set ?_ GE285.out | refine below_set ?_ GE292.out | refine below_set ?_ GE297.out | refine below_set ?_ GE302.out | exact HB.out) hb)
                      have z_BK321 := fun (h0_ : b 6 = true) (h1_ : b 9 = false) => (show w53.heap[gb321]? = some (.cells #[.int .i64 0, .bool false, .string (⟨#[]⟩ : ByteArray), .int .i64 0, .int .i64 0, .string (⟨#[]⟩ : ByteArray)] 51 (0, 0)) from by first | exact (blk_below (g := gb321) (o := .cells #[.int .i64 0, .bool false, .string (⟨#[]⟩ : ByteArray), .int .i64 0, .int .i64 0, .string (⟨#[]⟩ : ByteArray)] 51 (0, 0)) (by exact zB (Q_BK321 h0_ h1_)) hb))
                      have z_BK322 := fun (h0_ : b 7 = true) (h1_ : b 10 = false) => (show w53.heap[gb322]? = some (.cells #[.int .i64 0, .bool false, .string (⟨#[]⟩ : ByteArray), .int .i64 0, .int .i64 0, .string (⟨#[]⟩ : ByteArray)] 51 (0, 0)) from by first | exact (blk_below (g := gb322) (o := .cells #[.int .i64 0, .bool false, .string (⟨#[]⟩ : ByteArray), .int .i64 0, .int .i64 0, .string (⟨#[]⟩ : ByteArray)] 51 (0, 0)) (by exact zB (Q_BK322 h0_ h1_)) hb))
                      have z_BK323 := fun (h0_ : b 8 = true) (h1_ : b 11 = false) => (show w53.heap[gb323]? = some (.cells #[.int .i64 0, .bool false, .string (⟨#[]⟩ : ByteArray), .int .i64 0, .int .i64 0, .string (⟨#[]⟩ : ByteArray)] 51 (0, 0)) from by first | exact (blk_below (g := gb323) (o := .cells #[.int .i64 0, .bool false, .string (⟨#[]⟩ : ByteArray), .int .i64 0, .int .i64 0, .string (⟨#[]⟩ : ByteArray)] 51 (0, 0)) (by exact zB (Q_BK323 h0_ h1_)) hb))
                      clear BK285
                      clear BK292
                      clear BK297
                      clear BK302
                      clear HB
                      have BK285 := n0_
                      have BK292 := n1_
                      have BK297 := n2_
                      have BK302 := n3_
                      have HB := n4_
                      clear n0_ n1_ n2_ n3_ n4_
                      (try clear hb)
                      (try clear hb2)
                      (try clear hk)
                      (try clear hi)
                      refine hK.out _ _ ⟨gb321, gb322, gb323, m6_, m7_, m8_, (by rw [ha.out]; exact putSel_upk 3 hb_ rfl rfl rfl), (zB BK285.out), (zB BK292.out), (zB BK297.out), (zB BK302.out), (by repeat first | with_reducible exact HB.out | apply zS | refine below_set ?_ GE285.out | refine below_set ?_ GE292.out | refine below_set ?_ GE297.out | refine below_set ?_ GE302.out | exact HB.out), Q_NB322_321, Q_NB321_322, Q_NB323_321, Q_NB321_323, Q_NB323_322, Q_NB322_323, z_BK321, Q_GW321, Q_GE321, Q_NB285_321, Q_NB321_285, Q_NB292_321, Q_NB321_292, Q_NB297_321, Q_NB321_297, Q_NB302_321, Q_NB321_302, z_BK322, Q_GW322, Q_GE322, Q_NB285_322, Q_NB322_285, Q_NB292_322, Q_NB322_292, Q_NB297_322, Q_NB322_297, Q_NB302_322, Q_NB322_302, z_BK323, Q_GW323, Q_GE323, Q_NB285_323, Q_NB323_285, Q_NB292_323, Q_NB323_292, Q_NB297_323, Q_NB323_297, Q_NB302_323, Q_NB323_302, fun h0_ => absurd ((hoff 9 (by kernel_rfl)).symm.trans h0_) (by decide), fun h0_ => absurd ((hoff 10 (by kernel_rfl)).symm.trans h0_) (by decide), fun h0_ => absurd ((hoff 11 (by kernel_rfl)).symm.trans h0_) (by decide), Q_X6_, Q_X7_, Q_X8_⟩
                    refine steps_cons ?_ ?_
                    · rintro b a w' ⟨gb321, gb322, gb323, m6_, m7_, m8_, ha, Q_BK285, Q_BK292, Q_BK297, Q_BK302, Q_HB, Q_NB322_321, Q_NB321_322, Q_NB323_321, Q_NB321_323, Q_NB323_322, Q_NB322_323, Q_BK321, Q_GW321, Q_GE321, Q_NB285_321, Q_NB321_285, Q_NB292_321, Q_NB321_292, Q_NB297_321, Q_NB321_297, Q_NB302_321, Q_NB321_302, Q_BK322, Q_GW322, Q_GE322, Q_NB285_322, Q_NB322_285, Q_NB292_322, Q_NB322_292, Q_NB297_322, Q_NB322_297, Q_NB302_322, Q_NB322_302, Q_BK323, Q_GW323, Q_GE323, Q_NB285_323, Q_NB323_285, Q_NB292_323, Q_NB323_292, Q_NB297_323, Q_NB323_297, Q_NB302_323, Q_NB323_302, Q_BK321_e9, Q_BK322_e10, Q_BK323_e11, Q_X6_, Q_X7_, Q_X8_⟩ hb_ hon hoff
                      refine ⟨_, rfl, fun K hK => ?_⟩
                      have e1 : a.tmps[1]? = some (.pointer (some ⟨gb285, 0, none⟩)) := by rw [ha]; exact (putSel_off rfl).trans rfl
                      replace ha := Aside0.mk ha
                      have BK285 := Aside0.mk Q_BK285
                      have BK292 := Aside0.mk Q_BK292
                      have BK297 := Aside0.mk Q_BK297
                      have BK302 := Aside0.mk Q_BK302
                      have HB := Aside0.mk Q_HB
                      have hc0_ : w'.cell? ⟨gb285, 0, none⟩ = some (.int .i64 a0_0) := (blk_cell BK285.out 0).trans rfl
                      have hc1_ : w'.cell? ⟨gb285, 1, none⟩ = some (.int .i64 a0_1) := (blk_cell BK285.out 1).trans rfl
                      have hc2_ : w'.cell? ⟨gb285, 2, none⟩ = some (.string a0_2) := (blk_cell BK285.out 2).trans rfl
                      refine value_ (w1 := w') (v := .agg #[.int .i64 a0_0, .int .i64 a0_1, .string a0_2]) (by rfl) rfl ?_ ?_
                      · go_simp
                        (try simp only [i64_w])
                        try rfl
                      refine hK.out _ _ ⟨gb321, gb322, gb323, m6_, m7_, m8_, (by rw [ha.out]; exact putSel_upk 4 hb_ rfl rfl rfl), Q_BK285, Q_BK292, Q_BK297, Q_BK302, Q_HB, Q_NB322_321, Q_NB321_322, Q_NB323_321, Q_NB321_323, Q_NB323_322, Q_NB322_323, Q_BK321, Q_GW321, Q_GE321, Q_NB285_321, Q_NB321_285, Q_NB292_321, Q_NB321_292, Q_NB297_321, Q_NB321_297, Q_NB302_321, Q_NB321_302, Q_BK322, Q_GW322, Q_GE322, Q_NB285_322, Q_NB322_285, Q_NB292_322, Q_NB322_292, Q_NB297_322, Q_NB322_297, Q_NB302_322, Q_NB322_302, Q_BK323, Q_GW323, Q_GE323, Q_NB285_323, Q_NB323_285, Q_NB292_323, Q_NB323_292, Q_NB297_323, Q_NB323_297, Q_NB302_323, Q_NB323_302, fun h0_ => absurd ((hoff 9 (by kernel_rfl)).symm.trans h0_) (by decide), fun h0_ => absurd ((hoff 10 (by kernel_rfl)).symm.trans h0_) (by decide), fun h0_ => absurd ((hoff 11 (by kernel_rfl)).symm.trans h0_) (by decide), Q_X6_, Q_X7_, Q_X8_⟩
                    refine steps_cons ?_ ?_
                    · rintro b a w' ⟨gb321, gb322, gb323, m6_, m7_, m8_, ha, Q_BK285, Q_BK292, Q_BK297, Q_BK302, Q_HB, Q_NB322_321, Q_NB321_322, Q_NB323_321, Q_NB321_323, Q_NB323_322, Q_NB322_323, Q_BK321, Q_GW321, Q_GE321, Q_NB285_321, Q_NB321_285, Q_NB292_321, Q_NB321_292, Q_NB297_321, Q_NB321_297, Q_NB302_321, Q_NB321_302, Q_BK322, Q_GW322, Q_GE322, Q_NB285_322, Q_NB322_285, Q_NB292_322, Q_NB322_292, Q_NB297_322, Q_NB322_297, Q_NB302_322, Q_NB322_302, Q_BK323, Q_GW323, Q_GE323, Q_NB285_323, Q_NB323_285, Q_NB292_323, Q_NB323_292, Q_NB297_323, Q_NB323_297, Q_NB302_323, Q_NB323_302, Q_BK321_e9, Q_BK322_e10, Q_BK323_e11, Q_X6_, Q_X7_, Q_X8_⟩ hb_ hon hoff
                      refine ⟨_, rfl, fun K hK => ?_⟩
                      have e34 : a.tmps[34]? = some (.agg #[.int .i64 a0_0, .int .i64 a0_1, .string a0_2]) := by rw [ha]; exact putSel_on (e := (4, 34, .agg #[.int .i64 a0_0, .int .i64 a0_1, .string a0_2])) 4 rfl rfl (hon 4 (by kernel_rfl)) rfl
                      replace ha := Aside0.mk ha
                      have BK285 := Aside0.mk Q_BK285
                      have BK292 := Aside0.mk Q_BK292
                      have BK297 := Aside0.mk Q_BK297
                      have BK302 := Aside0.mk Q_BK302
                      have HB := Aside0.mk Q_HB
                      refine goes_ Tryd.func21 (by kernel_rfl) rfl #[.agg #[.int .i64 a0_0, .int .i64 a0_1, .string a0_2]] (by rfl) rfl rfl (by first | (simp only [List.map_toArray, List.map_cons, List.map_nil, Act.eval, Array.getD_eq_getD_getElem?, Option.getD_some, e34]; done) | (simp only [List.map_toArray, List.map_cons, List.map_nil, Act.eval, Array.getD_eq_getD_getElem?, Option.getD_some, e34]; rfl)) ?_
                      with_reducible refine (pannierref03_Str.calls k a0_0 a0_1 a0_2 t315 t316 t317 t318 t319 t320 _ A14.out).mono ?_
                      rintro e w54 ⟨rfl, hb⟩
                      refine ⟨_, rfl, ?_⟩
                      have n0_ := Aside0.mk (blk_below (g := gb285) (o := .cells #[.int .i64 a0_0, .int .i64 a0_1, .string a0_2] 42 (0, 0)) (zB BK285.out) hb)
                      have n1_ := Aside0.mk (blk_below (g := gb292) (o := .cells #[.int .i64 t289, .int .i64 t290, .string t291] 42 (0, 0)) (zB BK292.out) hb)
                      have n2_ := Aside0.mk (blk_below (g := gb297) (o := .cells #[.int .i64 t294, .int .i64 t295, .string t296] 42 (0, 0)) (zB BK297.out) hb)
                      have n3_ := Aside0.mk (blk_below (g := gb302) (o := .cells #[.int .i64 t299, .int .i64 t300, .string t301] 42 (0, 0)) (zB BK302.out) hb)
                      have n4_ := Aside0.mk (below_step (by repeat first | with_reducible exact HB.out | apply zS | refine below_set ?_ GE285.out | refine below_set ?_ GE292.out | refine below_set ?_ GE297.out | refine below_set ?_ GE302.out | exact HB.out) hb)
                      have z_BK321 := fun (h0_ : b 6 = true) (h1_ : b 9 = false) => (show w54.heap[gb321]? = some (.cells #[.int .i64 0, .bool false, .string (⟨#[]⟩ : ByteArray), .int .i64 0, .int .i64 0, .string (⟨#[]⟩ : ByteArray)] 51 (0, 0)) from by first | exact (blk_below (g := gb321) (o := .cells #[.int .i64 0, .bool false, .string (⟨#[]⟩ : ByteArray), .int .i64 0, .int .i64 0, .string (⟨#[]⟩ : ByteArray)] 51 (0, 0)) (by exact zB (Q_BK321 h0_ h1_)) hb))
                      have z_BK322 := fun (h0_ : b 7 = true) (h1_ : b 10 = false) => (show w54.heap[gb322]? = some (.cells #[.int .i64 0, .bool false, .string (⟨#[]⟩ : ByteArray), .int .i64 0, .int .i64 0, .string (⟨#[]⟩ : ByteArray)] 51 (0, 0)) from by first | exact (blk_below (g := gb322) (o := .cells #[.int .i64 0, .bool false, .string (⟨#[]⟩ : ByteArray), .int .i64 0, .int .i64 0, .string (⟨#[]⟩ : ByteArray)] 51 (0, 0)) (by exact zB (Q_BK322 h0_ h1_)) hb))
                      have z_BK323 := fun (h0_ : b 8 = true) (h1_ : b 11 = false) => (show w54.heap[gb323]? = some (.cells #[.int .i64 0, .bool false, .string (⟨#[]⟩ : ByteArray), .int .i64 0, .int .i64 0, .string (⟨#[]⟩ : ByteArray)] 51 (0, 0)) from by first | exact (blk_below (g := gb323) (o := .cells #[.int .i64 0, .bool false, .string (⟨#[]⟩ : ByteArray), .int .i64 0, .int .i64 0, .string (⟨#[]⟩ : ByteArray)] 51 (0, 0)) (by exact zB (Q_BK323 h0_ h1_)) hb))
                      clear BK285
                      clear BK292
                      clear BK297
                      clear BK302
                      clear HB
                      have BK285 := n0_
                      have BK292 := n1_
                      have BK297 := n2_
                      have BK302 := n3_
                      have HB := n4_
                      clear n0_ n1_ n2_ n3_ n4_
                      (try clear hb)
                      (try clear hb2)
                      (try clear hk)
                      (try clear hi)
                      refine hK.out _ _ ⟨gb321, gb322, gb323, m6_, m7_, m8_, (by rw [ha.out]; exact putSel_upk 5 hb_ rfl rfl rfl), (zB BK285.out), (zB BK292.out), (zB BK297.out), (zB BK302.out), (by repeat first | with_reducible exact HB.out | apply zS | refine below_set ?_ GE285.out | refine below_set ?_ GE292.out | refine below_set ?_ GE297.out | refine below_set ?_ GE302.out | exact HB.out), Q_NB322_321, Q_NB321_322, Q_NB323_321, Q_NB321_323, Q_NB323_322, Q_NB322_323, z_BK321, Q_GW321, Q_GE321, Q_NB285_321, Q_NB321_285, Q_NB292_321, Q_NB321_292, Q_NB297_321, Q_NB321_297, Q_NB302_321, Q_NB321_302, z_BK322, Q_GW322, Q_GE322, Q_NB285_322, Q_NB322_285, Q_NB292_322, Q_NB322_292, Q_NB297_322, Q_NB322_297, Q_NB302_322, Q_NB322_302, z_BK323, Q_GW323, Q_GE323, Q_NB285_323, Q_NB323_285, Q_NB292_323, Q_NB323_292, Q_NB297_323, Q_NB323_297, Q_NB302_323, Q_NB323_302, fun h0_ => absurd ((hoff 9 (by kernel_rfl)).symm.trans h0_) (by decide), fun h0_ => absurd ((hoff 10 (by kernel_rfl)).symm.trans h0_) (by decide), fun h0_ => absurd ((hoff 11 (by kernel_rfl)).symm.trans h0_) (by decide), Q_X6_, Q_X7_, Q_X8_⟩
                    refine steps_cons ?_ ?_
                    · rintro b a w' ⟨gb321, gb322, gb323, m6_, m7_, m8_, ha, Q_BK285, Q_BK292, Q_BK297, Q_BK302, Q_HB, Q_NB322_321, Q_NB321_322, Q_NB323_321, Q_NB321_323, Q_NB323_322, Q_NB322_323, Q_BK321, Q_GW321, Q_GE321, Q_NB285_321, Q_NB321_285, Q_NB292_321, Q_NB321_292, Q_NB297_321, Q_NB321_297, Q_NB302_321, Q_NB321_302, Q_BK322, Q_GW322, Q_GE322, Q_NB285_322, Q_NB322_285, Q_NB292_322, Q_NB322_292, Q_NB297_322, Q_NB322_297, Q_NB302_322, Q_NB322_302, Q_BK323, Q_GW323, Q_GE323, Q_NB285_323, Q_NB323_285, Q_NB292_323, Q_NB323_292, Q_NB297_323, Q_NB323_297, Q_NB302_323, Q_NB323_302, Q_BK321_e9, Q_BK322_e10, Q_BK323_e11, Q_X6_, Q_X7_, Q_X8_⟩ hb_ hon hoff
                      refine ⟨_, rfl, fun K hK => ?_⟩
                      replace ha := Aside0.mk ha
                      have BK285 := Aside0.mk Q_BK285
                      have BK292 := Aside0.mk Q_BK292
                      have BK297 := Aside0.mk Q_BK297
                      have BK302 := Aside0.mk Q_BK302
                      have HB := Aside0.mk Q_HB
                      refine box_step ?hg (N := 9) ?hd (cs := #[.int .i64 0, .bool false, .string (⟨#[]⟩ : ByteArray), .int .i64 0, .int .i64 0, .string (⟨#[]⟩ : ByteArray)]) (t := 51) ?hr ?_; (case hd => rfl); (case hg => rfl); (case hr => first | (go_simp; done) | (go_simp; rfl))
                      intro gb321 hg w51 hbox hb
                      have n0_ := Aside0.mk (blk_below (g := gb285) (o := .cells #[.int .i64 a0_0, .int .i64 a0_1, .string a0_2] 42 (0, 0)) (zB BK285.out) hb)
                      have n1_ := Aside0.mk (blk_below (g := gb292) (o := .cells #[.int .i64 t289, .int .i64 t290, .string t291] 42 (0, 0)) (zB BK292.out) hb)
                      have n2_ := Aside0.mk (blk_below (g := gb297) (o := .cells #[.int .i64 t294, .int .i64 t295, .string t296] 42 (0, 0)) (zB BK297.out) hb)
                      have n3_ := Aside0.mk (blk_below (g := gb302) (o := .cells #[.int .i64 t299, .int .i64 t300, .string t301] 42 (0, 0)) (zB BK302.out) hb)
                      have n4_ := Aside0.mk (below_step (by repeat first | with_reducible exact HB.out | apply zS | refine below_set ?_ GE285.out | refine below_set ?_ GE292.out | refine below_set ?_ GE297.out | refine below_set ?_ GE302.out | exact HB.out) hb)
                      have n5_ := Aside0.mk (hbox)
                      have n6_ := Aside0.mk ((by rw [hg]; exact (below_size (by repeat first | with_reducible exact HB.out | apply zS | refine below_set ?_ GE285.out | refine below_set ?_ GE292.out | refine below_set ?_ GE297.out | refine below_set ?_ GE302.out | exact HB.out)) : w.heap.size ≤ gb321))
                      have n7_ := Aside0.mk ((by rw [hg]; exact (below_size (by repeat first | with_reducible exact HB.out | apply zS | refine below_set ?_ GE285.out | refine below_set ?_ GE292.out | refine below_set ?_ GE297.out | refine below_set ?_ GE302.out | exact HB.out)) : w.heap.size ≤ gb321))
                      have n8_ := Aside0.mk ((by rw [hg]; exact Nat.ne_of_lt (blk_lt (g := gb285) (o := .cells #[.int .i64 a0_0, .int .i64 a0_1, .string a0_2] 42 (0, 0)) (zB BK285.out)) : gb285 ≠ gb321))
                      have n9_ := Aside0.mk ((by rw [hg]; exact Nat.ne_of_gt (blk_lt (g := gb285) (o := .cells #[.int .i64 a0_0, .int .i64 a0_1, .string a0_2] 42 (0, 0)) (zB BK285.out)) : gb321 ≠ gb285))
                      have n10_ := Aside0.mk ((by rw [hg]; exact Nat.ne_of_lt (blk_lt (g := gb292) (o := .cells #[.int .i64 t289, .int .i64 t290, .string t291] 42 (0, 0)) (zB BK292.out)) : gb292 ≠ gb321))
                      have n11_ := Aside0.mk ((by rw [hg]; exact Nat.ne_of_gt (blk_lt (g := gb292) (o := .cells #[.int .i64 t289, .int .i64 t290, .string t291] 42 (0, 0)) (zB BK292.out)) : gb321 ≠ gb292))
                      have n12_ := Aside0.mk ((by rw [hg]; exact Nat.ne_of_lt (blk_lt (g := gb297) (o := .cells #[.int .i64 t294, .int .i64 t295, .string t296] 42 (0, 0)) (zB BK297.out)) : gb297 ≠ gb321))
                      have n13_ := Aside0.mk ((by rw [hg]; exact Nat.ne_of_gt (blk_lt (g := gb297) (o := .cells #[.int .i64 t294, .int .i64 t295, .string t296] 42 (0, 0)) (zB BK297.out)) : gb321 ≠ gb297))
                      have n14_ := Aside0.mk ((by rw [hg]; exact Nat.ne_of_lt (blk_lt (g := gb302) (o := .cells #[.int .i64 t299, .int .i64 t300, .string t301] 42 (0, 0)) (zB BK302.out)) : gb302 ≠ gb321))
                      have n15_ := Aside0.mk ((by rw [hg]; exact Nat.ne_of_gt (blk_lt (g := gb302) (o := .cells #[.int .i64 t299, .int .i64 t300, .string t301] 42 (0, 0)) (zB BK302.out)) : gb321 ≠ gb302))
                      have z_NB322_321 := fun (h0_ : up b 6 6 = true) (h1_ : up b 6 7 = true) => (show gb322 ≠ gb321 from ((by rw [hg]; exact Nat.ne_of_lt (blk_lt (g := gb322) (o := .cells #[.int .i64 0, .bool false, .string (⟨#[]⟩ : ByteArray), .int .i64 0, .int .i64 0, .string (⟨#[]⟩ : ByteArray)] 51 (0, 0)) (zB (Q_BK322 (show b 7 = true from by simpa [up] using h1_) (hoff 10 (by kernel_rfl))))) : gb322 ≠ gb321)))
                      have z_NB321_322 := fun (h0_ : up b 6 6 = true) (h1_ : up b 6 7 = true) => (show gb321 ≠ gb322 from ((by rw [hg]; exact Nat.ne_of_gt (blk_lt (g := gb322) (o := .cells #[.int .i64 0, .bool false, .string (⟨#[]⟩ : ByteArray), .int .i64 0, .int .i64 0, .string (⟨#[]⟩ : ByteArray)] 51 (0, 0)) (zB (Q_BK322 (show b 7 = true from by simpa [up] using h1_) (hoff 10 (by kernel_rfl))))) : gb321 ≠ gb322)))
                      have z_NB323_321 := fun (h0_ : up b 6 6 = true) (h1_ : up b 6 8 = true) => (show gb323 ≠ gb321 from ((by rw [hg]; exact Nat.ne_of_lt (blk_lt (g := gb323) (o := .cells #[.int .i64 0, .bool false, .string (⟨#[]⟩ : ByteArray), .int .i64 0, .int .i64 0, .string (⟨#[]⟩ : ByteArray)] 51 (0, 0)) (zB (Q_BK323 (show b 8 = true from by simpa [up] using h1_) (hoff 11 (by kernel_rfl))))) : gb323 ≠ gb321)))
                      have z_NB321_323 := fun (h0_ : up b 6 6 = true) (h1_ : up b 6 8 = true) => (show gb321 ≠ gb323 from ((by rw [hg]; exact Nat.ne_of_gt (blk_lt (g := gb323) (o := .cells #[.int .i64 0, .bool false, .string (⟨#[]⟩ : ByteArray), .int .i64 0, .int .i64 0, .string (⟨#[]⟩ : ByteArray)] 51 (0, 0)) (zB (Q_BK323 (show b 8 = true from by simpa [up] using h1_) (hoff 11 (by kernel_rfl))))) : gb321 ≠ gb323)))
                      have z_BK322 := fun (h0_ : b 7 = true) (h1_ : b 10 = false) => (show w51.heap[gb322]? = some (.cells #[.int .i64 0, .bool false, .string (⟨#[]⟩ : ByteArray), .int .i64 0, .int .i64 0, .string (⟨#[]⟩ : ByteArray)] 51 (0, 0)) from by first | exact (blk_below (g := gb322) (o := .cells #[.int .i64 0, .bool false, .string (⟨#[]⟩ : ByteArray), .int .i64 0, .int .i64 0, .string (⟨#[]⟩ : ByteArray)] 51 (0, 0)) (by exact zB (Q_BK322 h0_ h1_)) hb))
                      have z_BK323 := fun (h0_ : b 8 = true) (h1_ : b 11 = false) => (show w51.heap[gb323]? = some (.cells #[.int .i64 0, .bool false, .string (⟨#[]⟩ : ByteArray), .int .i64 0, .int .i64 0, .string (⟨#[]⟩ : ByteArray)] 51 (0, 0)) from by first | exact (blk_below (g := gb323) (o := .cells #[.int .i64 0, .bool false, .string (⟨#[]⟩ : ByteArray), .int .i64 0, .int .i64 0, .string (⟨#[]⟩ : ByteArray)] 51 (0, 0)) (by exact zB (Q_BK323 h0_ h1_)) hb))
                      clear BK285
                      clear BK292
                      clear BK297
                      clear BK302
                      clear HB
                      have BK285 := n0_
                      have BK292 := n1_
                      have BK297 := n2_
                      have BK302 := n3_
                      have HB := n4_
                      have BK321 := n5_
                      have GW321 := n6_
                      have GE321 := n7_
                      have NB285_321 := n8_
                      have NB321_285 := n9_
                      have NB292_321 := n10_
                      have NB321_292 := n11_
                      have NB297_321 := n12_
                      have NB321_297 := n13_
                      have NB302_321 := n14_
                      have NB321_302 := n15_
                      clear n0_ n1_ n2_ n3_ n4_ n5_ n6_ n7_ n8_ n9_ n10_ n11_ n12_ n13_ n14_ n15_
                      clear hb hbox hg
                      refine hK.out _ _ ⟨gb321, gb322, gb323, (.pointer (some ⟨gb321, 0, none⟩)), m7_, m8_, (by rw [ha.out]; exact putSel_upk 6 hb_ rfl rfl rfl), (zB BK285.out), (zB BK292.out), (zB BK297.out), (zB BK302.out), (by repeat first | with_reducible exact HB.out | apply zS | refine below_set ?_ GE285.out | refine below_set ?_ GE292.out | refine below_set ?_ GE297.out | refine below_set ?_ GE302.out | refine below_set ?_ GE321.out | exact HB.out), @z_NB322_321, @z_NB321_322, @z_NB323_321, @z_NB321_323, Q_NB323_322, Q_NB322_323, fun _ _ => (zB BK321.out), fun _ => GW321.out, fun _ => GE321.out, fun _ => NB285_321.out, fun _ => NB321_285.out, fun _ => NB292_321.out, fun _ => NB321_292.out, fun _ => NB297_321.out, fun _ => NB321_297.out, fun _ => NB302_321.out, fun _ => NB321_302.out, z_BK322, Q_GW322, Q_GE322, Q_NB285_322, Q_NB322_285, Q_NB292_322, Q_NB322_292, Q_NB297_322, Q_NB322_297, Q_NB302_322, Q_NB322_302, z_BK323, Q_GW323, Q_GE323, Q_NB285_323, Q_NB323_285, Q_NB292_323, Q_NB323_292, Q_NB297_323, Q_NB323_297, Q_NB302_323, Q_NB323_302, fun h0_ => absurd ((hoff 9 (by kernel_rfl)).symm.trans h0_) (by decide), fun h0_ => absurd ((hoff 10 (by kernel_rfl)).symm.trans h0_) (by decide), fun h0_ => absurd ((hoff 11 (by kernel_rfl)).symm.trans h0_) (by decide), fun _ => rfl, Q_X7_, Q_X8_⟩
                    refine steps_cons ?_ ?_
                    · rintro b a w' ⟨gb321, gb322, gb323, m6_, m7_, m8_, ha, Q_BK285, Q_BK292, Q_BK297, Q_BK302, Q_HB, Q_NB322_321, Q_NB321_322, Q_NB323_321, Q_NB321_323, Q_NB323_322, Q_NB322_323, Q_BK321, Q_GW321, Q_GE321, Q_NB285_321, Q_NB321_285, Q_NB292_321, Q_NB321_292, Q_NB297_321, Q_NB321_297, Q_NB302_321, Q_NB321_302, Q_BK322, Q_GW322, Q_GE322, Q_NB285_322, Q_NB322_285, Q_NB292_322, Q_NB322_292, Q_NB297_322, Q_NB322_297, Q_NB302_322, Q_NB322_302, Q_BK323, Q_GW323, Q_GE323, Q_NB285_323, Q_NB323_285, Q_NB292_323, Q_NB323_292, Q_NB297_323, Q_NB323_297, Q_NB302_323, Q_NB323_302, Q_BK321_e9, Q_BK322_e10, Q_BK323_e11, Q_X6_, Q_X7_, Q_X8_⟩ hb_ hon hoff
                      refine ⟨_, rfl, fun K hK => ?_⟩
                      replace ha := Aside0.mk ha
                      have BK285 := Aside0.mk Q_BK285
                      have BK292 := Aside0.mk Q_BK292
                      have BK297 := Aside0.mk Q_BK297
                      have BK302 := Aside0.mk Q_BK302
                      have HB := Aside0.mk Q_HB
                      refine box_step ?hg (N := 10) ?hd (cs := #[.int .i64 0, .bool false, .string (⟨#[]⟩ : ByteArray), .int .i64 0, .int .i64 0, .string (⟨#[]⟩ : ByteArray)]) (t := 51) ?hr ?_; (case hd => rfl); (case hg => rfl); (case hr => first | (go_simp; done) | (go_simp; rfl))
                      intro gb322 hg w51 hbox hb
                      have n0_ := Aside0.mk (blk_below (g := gb285) (o := .cells #[.int .i64 a0_0, .int .i64 a0_1, .string a0_2] 42 (0, 0)) (zB BK285.out) hb)
                      have n1_ := Aside0.mk (blk_below (g := gb292) (o := .cells #[.int .i64 t289, .int .i64 t290, .string t291] 42 (0, 0)) (zB BK292.out) hb)
                      have n2_ := Aside0.mk (blk_below (g := gb297) (o := .cells #[.int .i64 t294, .int .i64 t295, .string t296] 42 (0, 0)) (zB BK297.out) hb)
                      have n3_ := Aside0.mk (blk_below (g := gb302) (o := .cells #[.int .i64 t299, .int .i64 t300, .string t301] 42 (0, 0)) (zB BK302.out) hb)
                      have n4_ := Aside0.mk (below_step (by repeat first | with_reducible exact HB.out | apply zS | refine below_set ?_ GE285.out | refine below_set ?_ GE292.out | refine below_set ?_ GE297.out | refine below_set ?_ GE302.out | exact HB.out) hb)
                      have n5_ := Aside0.mk (hbox)
                      have n6_ := Aside0.mk ((by rw [hg]; exact (below_size (by repeat first | with_reducible exact HB.out | apply zS | refine below_set ?_ GE285.out | refine below_set ?_ GE292.out | refine below_set ?_ GE297.out | refine below_set ?_ GE302.out | exact HB.out)) : w.heap.size ≤ gb322))
                      have n7_ := Aside0.mk ((by rw [hg]; exact (below_size (by repeat first | with_reducible exact HB.out | apply zS | refine below_set ?_ GE285.out | refine below_set ?_ GE292.out | refine below_set ?_ GE297.out | refine below_set ?_ GE302.out | exact HB.out)) : w.heap.size ≤ gb322))
                      have n8_ := Aside0.mk ((by rw [hg]; exact Nat.ne_of_lt (blk_lt (g := gb285) (o := .cells #[.int .i64 a0_0, .int .i64 a0_1, .string a0_2] 42 (0, 0)) (zB BK285.out)) : gb285 ≠ gb322))
                      have n9_ := Aside0.mk ((by rw [hg]; exact Nat.ne_of_gt (blk_lt (g := gb285) (o := .cells #[.int .i64 a0_0, .int .i64 a0_1, .string a0_2] 42 (0, 0)) (zB BK285.out)) : gb322 ≠ gb285))
                      have n10_ := Aside0.mk ((by rw [hg]; exact Nat.ne_of_lt (blk_lt (g := gb292) (o := .cells #[.int .i64 t289, .int .i64 t290, .string t291] 42 (0, 0)) (zB BK292.out)) : gb292 ≠ gb322))
                      have n11_ := Aside0.mk ((by rw [hg]; exact Nat.ne_of_gt (blk_lt (g := gb292) (o := .cells #[.int .i64 t289, .int .i64 t290, .string t291] 42 (0, 0)) (zB BK292.out)) : gb322 ≠ gb292))
                      have n12_ := Aside0.mk ((by rw [hg]; exact Nat.ne_of_lt (blk_lt (g := gb297) (o := .cells #[.int .i64 t294, .int .i64 t295, .string t296] 42 (0, 0)) (zB BK297.out)) : gb297 ≠ gb322))
                      have n13_ := Aside0.mk ((by rw [hg]; exact Nat.ne_of_gt (blk_lt (g := gb297) (o := .cells #[.int .i64 t294, .int .i64 t295, .string t296] 42 (0, 0)) (zB BK297.out)) : gb322 ≠ gb297))
                      have n14_ := Aside0.mk ((by rw [hg]; exact Nat.ne_of_lt (blk_lt (g := gb302) (o := .cells #[.int .i64 t299, .int .i64 t300, .string t301] 42 (0, 0)) (zB BK302.out)) : gb302 ≠ gb322))
                      have n15_ := Aside0.mk ((by rw [hg]; exact Nat.ne_of_gt (blk_lt (g := gb302) (o := .cells #[.int .i64 t299, .int .i64 t300, .string t301] 42 (0, 0)) (zB BK302.out)) : gb322 ≠ gb302))
                      have z_NB322_321 := fun (h0_ : up b 7 6 = true) (h1_ : up b 7 7 = true) => (show gb322 ≠ gb321 from ((by rw [hg]; exact Nat.ne_of_gt (blk_lt (g := gb321) (o := .cells #[.int .i64 0, .bool false, .string (⟨#[]⟩ : ByteArray), .int .i64 0, .int .i64 0, .string (⟨#[]⟩ : ByteArray)] 51 (0, 0)) (zB (Q_BK321 (show b 6 = true from by simpa [up] using h0_) (hoff 9 (by kernel_rfl))))) : gb322 ≠ gb321)))
                      have z_NB321_322 := fun (h0_ : up b 7 6 = true) (h1_ : up b 7 7 = true) => (show gb321 ≠ gb322 from ((by rw [hg]; exact Nat.ne_of_lt (blk_lt (g := gb321) (o := .cells #[.int .i64 0, .bool false, .string (⟨#[]⟩ : ByteArray), .int .i64 0, .int .i64 0, .string (⟨#[]⟩ : ByteArray)] 51 (0, 0)) (zB (Q_BK321 (show b 6 = true from by simpa [up] using h0_) (hoff 9 (by kernel_rfl))))) : gb321 ≠ gb322)))
                      have z_NB323_322 := fun (h0_ : up b 7 7 = true) (h1_ : up b 7 8 = true) => (show gb323 ≠ gb322 from ((by rw [hg]; exact Nat.ne_of_lt (blk_lt (g := gb323) (o := .cells #[.int .i64 0, .bool false, .string (⟨#[]⟩ : ByteArray), .int .i64 0, .int .i64 0, .string (⟨#[]⟩ : ByteArray)] 51 (0, 0)) (zB (Q_BK323 (show b 8 = true from by simpa [up] using h1_) (hoff 11 (by kernel_rfl))))) : gb323 ≠ gb322)))
                      have z_NB322_323 := fun (h0_ : up b 7 7 = true) (h1_ : up b 7 8 = true) => (show gb322 ≠ gb323 from ((by rw [hg]; exact Nat.ne_of_gt (blk_lt (g := gb323) (o := .cells #[.int .i64 0, .bool false, .string (⟨#[]⟩ : ByteArray), .int .i64 0, .int .i64 0, .string (⟨#[]⟩ : ByteArray)] 51 (0, 0)) (zB (Q_BK323 (show b 8 = true from by simpa [up] using h1_) (hoff 11 (by kernel_rfl))))) : gb322 ≠ gb323)))
                      have z_BK321 := fun (h0_ : b 6 = true) (h1_ : b 9 = false) => (show w51.heap[gb321]? = some (.cells #[.int .i64 0, .bool false, .string (⟨#[]⟩ : ByteArray), .int .i64 0, .int .i64 0, .string (⟨#[]⟩ : ByteArray)] 51 (0, 0)) from by first | exact (blk_below (g := gb321) (o := .cells #[.int .i64 0, .bool false, .string (⟨#[]⟩ : ByteArray), .int .i64 0, .int .i64 0, .string (⟨#[]⟩ : ByteArray)] 51 (0, 0)) (by exact zB (Q_BK321 h0_ h1_)) hb))
                      have z_BK323 := fun (h0_ : b 8 = true) (h1_ : b 11 = false) => (show w51.heap[gb323]? = some (.cells #[.int .i64 0, .bool false, .string (⟨#[]⟩ : ByteArray), .int .i64 0, .int .i64 0, .string (⟨#[]⟩ : ByteArray)] 51 (0, 0)) from by first | exact (blk_below (g := gb323) (o := .cells #[.int .i64 0, .bool false, .string (⟨#[]⟩ : ByteArray), .int .i64 0, .int .i64 0, .string (⟨#[]⟩ : ByteArray)] 51 (0, 0)) (by exact zB (Q_BK323 h0_ h1_)) hb))
                      clear BK285
                      clear BK292
                      clear BK297
                      clear BK302
                      clear HB
                      have BK285 := n0_
                      have BK292 := n1_
                      have BK297 := n2_
                      have BK302 := n3_
                      have HB := n4_
                      have BK322 := n5_
                      have GW322 := n6_
                      have GE322 := n7_
                      have NB285_322 := n8_
                      have NB322_285 := n9_
                      have NB292_322 := n10_
                      have NB322_292 := n11_
                      have NB297_322 := n12_
                      have NB322_297 := n13_
                      have NB302_322 := n14_
                      have NB322_302 := n15_
                      clear n0_ n1_ n2_ n3_ n4_ n5_ n6_ n7_ n8_ n9_ n10_ n11_ n12_ n13_ n14_ n15_
                      clear hb hbox hg
                      refine hK.out _ _ ⟨gb321, gb322, gb323, m6_, (.pointer (some ⟨gb322, 0, none⟩)), m8_, (by rw [ha.out]; exact putSel_upk 7 hb_ rfl rfl rfl), (zB BK285.out), (zB BK292.out), (zB BK297.out), (zB BK302.out), (by repeat first | with_reducible exact HB.out | apply zS | refine below_set ?_ GE285.out | refine below_set ?_ GE292.out | refine below_set ?_ GE297.out | refine below_set ?_ GE302.out | refine below_set ?_ GE322.out | exact HB.out), @z_NB322_321, @z_NB321_322, Q_NB323_321, Q_NB321_323, @z_NB323_322, @z_NB322_323, z_BK321, Q_GW321, Q_GE321, Q_NB285_321, Q_NB321_285, Q_NB292_321, Q_NB321_292, Q_NB297_321, Q_NB321_297, Q_NB302_321, Q_NB321_302, fun _ _ => (zB BK322.out), fun _ => GW322.out, fun _ => GE322.out, fun _ => NB285_322.out, fun _ => NB322_285.out, fun _ => NB292_322.out, fun _ => NB322_292.out, fun _ => NB297_322.out, fun _ => NB322_297.out, fun _ => NB302_322.out, fun _ => NB322_302.out, z_BK323, Q_GW323, Q_GE323, Q_NB285_323, Q_NB323_285, Q_NB292_323, Q_NB323_292, Q_NB297_323, Q_NB323_297, Q_NB302_323, Q_NB323_302, fun h0_ => absurd ((hoff 9 (by kernel_rfl)).symm.trans h0_) (by decide), fun h0_ => absurd ((hoff 10 (by kernel_rfl)).symm.trans h0_) (by decide), fun h0_ => absurd ((hoff 11 (by kernel_rfl)).symm.trans h0_) (by decide), Q_X6_, fun _ => rfl, Q_X8_⟩
                    refine steps_cons ?_ ?_
                    · rintro b a w' ⟨gb321, gb322, gb323, m6_, m7_, m8_, ha, Q_BK285, Q_BK292, Q_BK297, Q_BK302, Q_HB, Q_NB322_321, Q_NB321_322, Q_NB323_321, Q_NB321_323, Q_NB323_322, Q_NB322_323, Q_BK321, Q_GW321, Q_GE321, Q_NB285_321, Q_NB321_285, Q_NB292_321, Q_NB321_292, Q_NB297_321, Q_NB321_297, Q_NB302_321, Q_NB321_302, Q_BK322, Q_GW322, Q_GE322, Q_NB285_322, Q_NB322_285, Q_NB292_322, Q_NB322_292, Q_NB297_322, Q_NB322_297, Q_NB302_322, Q_NB322_302, Q_BK323, Q_GW323, Q_GE323, Q_NB285_323, Q_NB323_285, Q_NB292_323, Q_NB323_292, Q_NB297_323, Q_NB323_297, Q_NB302_323, Q_NB323_302, Q_BK321_e9, Q_BK322_e10, Q_BK323_e11, Q_X6_, Q_X7_, Q_X8_⟩ hb_ hon hoff
                      refine ⟨_, rfl, fun K hK => ?_⟩
                      replace ha := Aside0.mk ha
                      have BK285 := Aside0.mk Q_BK285
                      have BK292 := Aside0.mk Q_BK292
                      have BK297 := Aside0.mk Q_BK297
                      have BK302 := Aside0.mk Q_BK302
                      have HB := Aside0.mk Q_HB
                      refine box_step ?hg (N := 11) ?hd (cs := #[.int .i64 0, .bool false, .string (⟨#[]⟩ : ByteArray), .int .i64 0, .int .i64 0, .string (⟨#[]⟩ : ByteArray)]) (t := 51) ?hr ?_; (case hd => rfl); (case hg => rfl); (case hr => first | (go_simp; done) | (go_simp; rfl))
                      intro gb323 hg w51 hbox hb
                      have n0_ := Aside0.mk (blk_below (g := gb285) (o := .cells #[.int .i64 a0_0, .int .i64 a0_1, .string a0_2] 42 (0, 0)) (zB BK285.out) hb)
                      have n1_ := Aside0.mk (blk_below (g := gb292) (o := .cells #[.int .i64 t289, .int .i64 t290, .string t291] 42 (0, 0)) (zB BK292.out) hb)
                      have n2_ := Aside0.mk (blk_below (g := gb297) (o := .cells #[.int .i64 t294, .int .i64 t295, .string t296] 42 (0, 0)) (zB BK297.out) hb)
                      have n3_ := Aside0.mk (blk_below (g := gb302) (o := .cells #[.int .i64 t299, .int .i64 t300, .string t301] 42 (0, 0)) (zB BK302.out) hb)
                      have n4_ := Aside0.mk (below_step (by repeat first | with_reducible exact HB.out | apply zS | refine below_set ?_ GE285.out | refine below_set ?_ GE292.out | refine below_set ?_ GE297.out | refine below_set ?_ GE302.out | exact HB.out) hb)
                      have n5_ := Aside0.mk (hbox)
                      have n6_ := Aside0.mk ((by rw [hg]; exact (below_size (by repeat first | with_reducible exact HB.out | apply zS | refine below_set ?_ GE285.out | refine below_set ?_ GE292.out | refine below_set ?_ GE297.out | refine below_set ?_ GE302.out | exact HB.out)) : w.heap.size ≤ gb323))
                      have n7_ := Aside0.mk ((by rw [hg]; exact (below_size (by repeat first | with_reducible exact HB.out | apply zS | refine below_set ?_ GE285.out | refine below_set ?_ GE292.out | refine below_set ?_ GE297.out | refine below_set ?_ GE302.out | exact HB.out)) : w.heap.size ≤ gb323))
                      have n8_ := Aside0.mk ((by rw [hg]; exact Nat.ne_of_lt (blk_lt (g := gb285) (o := .cells #[.int .i64 a0_0, .int .i64 a0_1, .string a0_2] 42 (0, 0)) (zB BK285.out)) : gb285 ≠ gb323))
                      have n9_ := Aside0.mk ((by rw [hg]; exact Nat.ne_of_gt (blk_lt (g := gb285) (o := .cells #[.int .i64 a0_0, .int .i64 a0_1, .string a0_2] 42 (0, 0)) (zB BK285.out)) : gb323 ≠ gb285))
                      have n10_ := Aside0.mk ((by rw [hg]; exact Nat.ne_of_lt (blk_lt (g := gb292) (o := .cells #[.int .i64 t289, .int .i64 t290, .string t291] 42 (0, 0)) (zB BK292.out)) : gb292 ≠ gb323))
                      have n11_ := Aside0.mk ((by rw [hg]; exact Nat.ne_of_gt (blk_lt (g := gb292) (o := .cells #[.int .i64 t289, .int .i64 t290, .string t291] 42 (0, 0)) (zB BK292.out)) : gb323 ≠ gb292))
                      have n12_ := Aside0.mk ((by rw [hg]; exact Nat.ne_of_lt (blk_lt (g := gb297) (o := .cells #[.int .i64 t294, .int .i64 t295, .string t296] 42 (0, 0)) (zB BK297.out)) : gb297 ≠ gb323))
                      have n13_ := Aside0.mk ((by rw [hg]; exact Nat.ne_of_gt (blk_lt (g := gb297) (o := .cells #[.int .i64 t294, .int .i64 t295, .string t296] 42 (0, 0)) (zB BK297.out)) : gb323 ≠ gb297))
                      have n14_ := Aside0.mk ((by rw [hg]; exact Nat.ne_of_lt (blk_lt (g := gb302) (o := .cells #[.int .i64 t299, .int .i64 t300, .string t301] 42 (0, 0)) (zB BK302.out)) : gb302 ≠ gb323))
                      have n15_ := Aside0.mk ((by rw [hg]; exact Nat.ne_of_gt (blk_lt (g := gb302) (o := .cells #[.int .i64 t299, .int .i64 t300, .string t301] 42 (0, 0)) (zB BK302.out)) : gb323 ≠ gb302))
                      have z_NB323_321 := fun (h0_ : up b 8 6 = true) (h1_ : up b 8 8 = true) => (show gb323 ≠ gb321 from ((by rw [hg]; exact Nat.ne_of_gt (blk_lt (g := gb321) (o := .cells #[.int .i64 0, .bool false, .string (⟨#[]⟩ : ByteArray), .int .i64 0, .int .i64 0, .string (⟨#[]⟩ : ByteArray)] 51 (0, 0)) (zB (Q_BK321 (show b 6 = true from by simpa [up] using h0_) (hoff 9 (by kernel_rfl))))) : gb323 ≠ gb321)))
                      have z_NB321_323 := fun (h0_ : up b 8 6 = true) (h1_ : up b 8 8 = true) => (show gb321 ≠ gb323 from ((by rw [hg]; exact Nat.ne_of_lt (blk_lt (g := gb321) (o := .cells #[.int .i64 0, .bool false, .string (⟨#[]⟩ : ByteArray), .int .i64 0, .int .i64 0, .string (⟨#[]⟩ : ByteArray)] 51 (0, 0)) (zB (Q_BK321 (show b 6 = true from by simpa [up] using h0_) (hoff 9 (by kernel_rfl))))) : gb321 ≠ gb323)))
                      have z_NB323_322 := fun (h0_ : up b 8 7 = true) (h1_ : up b 8 8 = true) => (show gb323 ≠ gb322 from ((by rw [hg]; exact Nat.ne_of_gt (blk_lt (g := gb322) (o := .cells #[.int .i64 0, .bool false, .string (⟨#[]⟩ : ByteArray), .int .i64 0, .int .i64 0, .string (⟨#[]⟩ : ByteArray)] 51 (0, 0)) (zB (Q_BK322 (show b 7 = true from by simpa [up] using h0_) (hoff 10 (by kernel_rfl))))) : gb323 ≠ gb322)))
                      have z_NB322_323 := fun (h0_ : up b 8 7 = true) (h1_ : up b 8 8 = true) => (show gb322 ≠ gb323 from ((by rw [hg]; exact Nat.ne_of_lt (blk_lt (g := gb322) (o := .cells #[.int .i64 0, .bool false, .string (⟨#[]⟩ : ByteArray), .int .i64 0, .int .i64 0, .string (⟨#[]⟩ : ByteArray)] 51 (0, 0)) (zB (Q_BK322 (show b 7 = true from by simpa [up] using h0_) (hoff 10 (by kernel_rfl))))) : gb322 ≠ gb323)))
                      have z_BK321 := fun (h0_ : b 6 = true) (h1_ : b 9 = false) => (show w51.heap[gb321]? = some (.cells #[.int .i64 0, .bool false, .string (⟨#[]⟩ : ByteArray), .int .i64 0, .int .i64 0, .string (⟨#[]⟩ : ByteArray)] 51 (0, 0)) from by first | exact (blk_below (g := gb321) (o := .cells #[.int .i64 0, .bool false, .string (⟨#[]⟩ : ByteArray), .int .i64 0, .int .i64 0, .string (⟨#[]⟩ : ByteArray)] 51 (0, 0)) (by exact zB (Q_BK321 h0_ h1_)) hb))
                      have z_BK322 := fun (h0_ : b 7 = true) (h1_ : b 10 = false) => (show w51.heap[gb322]? = some (.cells #[.int .i64 0, .bool false, .string (⟨#[]⟩ : ByteArray), .int .i64 0, .int .i64 0, .string (⟨#[]⟩ : ByteArray)] 51 (0, 0)) from by first | exact (blk_below (g := gb322) (o := .cells #[.int .i64 0, .bool false, .string (⟨#[]⟩ : ByteArray), .int .i64 0, .int .i64 0, .string (⟨#[]⟩ : ByteArray)] 51 (0, 0)) (by exact zB (Q_BK322 h0_ h1_)) hb))
                      clear BK285
                      clear BK292
                      clear BK297
                      clear BK302
                      clear HB
                      have BK285 := n0_
                      have BK292 := n1_
                      have BK297 := n2_
                      have BK302 := n3_
                      have HB := n4_
                      have BK323 := n5_
                      have GW323 := n6_
                      have GE323 := n7_
                      have NB285_323 := n8_
                      have NB323_285 := n9_
                      have NB292_323 := n10_
                      have NB323_292 := n11_
                      have NB297_323 := n12_
                      have NB323_297 := n13_
                      have NB302_323 := n14_
                      have NB323_302 := n15_
                      clear n0_ n1_ n2_ n3_ n4_ n5_ n6_ n7_ n8_ n9_ n10_ n11_ n12_ n13_ n14_ n15_
                      clear hb hbox hg
                      refine hK.out _ _ ⟨gb321, gb322, gb323, m6_, m7_, (.pointer (some ⟨gb323, 0, none⟩)), (by rw [ha.out]; exact putSel_upk 8 hb_ rfl rfl rfl), (zB BK285.out), (zB BK292.out), (zB BK297.out), (zB BK302.out), (by repeat first | with_reducible exact HB.out | apply zS | refine below_set ?_ GE285.out | refine below_set ?_ GE292.out | refine below_set ?_ GE297.out | refine below_set ?_ GE302.out | refine below_set ?_ GE323.out | exact HB.out), Q_NB322_321, Q_NB321_322, @z_NB323_321, @z_NB321_323, @z_NB323_322, @z_NB322_323, z_BK321, Q_GW321, Q_GE321, Q_NB285_321, Q_NB321_285, Q_NB292_321, Q_NB321_292, Q_NB297_321, Q_NB321_297, Q_NB302_321, Q_NB321_302, z_BK322, Q_GW322, Q_GE322, Q_NB285_322, Q_NB322_285, Q_NB292_322, Q_NB322_292, Q_NB297_322, Q_NB322_297, Q_NB302_322, Q_NB322_302, fun _ _ => (zB BK323.out), fun _ => GW323.out, fun _ => GE323.out, fun _ => NB285_323.out, fun _ => NB323_285.out, fun _ => NB292_323.out, fun _ => NB323_292.out, fun _ => NB297_323.out, fun _ => NB323_297.out, fun _ => NB302_323.out, fun _ => NB323_302.out, fun h0_ => absurd ((hoff 9 (by kernel_rfl)).symm.trans h0_) (by decide), fun h0_ => absurd ((hoff 10 (by kernel_rfl)).symm.trans h0_) (by decide), fun h0_ => absurd ((hoff 11 (by kernel_rfl)).symm.trans h0_) (by decide), Q_X6_, Q_X7_, fun _ => rfl⟩
                    refine steps_cons ?_ ?_
                    · rintro b a w' ⟨gb321, gb322, gb323, m6_, m7_, m8_, ha, Q_BK285, Q_BK292, Q_BK297, Q_BK302, Q_HB, Q_NB322_321, Q_NB321_322, Q_NB323_321, Q_NB321_323, Q_NB323_322, Q_NB322_323, Q_BK321, Q_GW321, Q_GE321, Q_NB285_321, Q_NB321_285, Q_NB292_321, Q_NB321_292, Q_NB297_321, Q_NB321_297, Q_NB302_321, Q_NB321_302, Q_BK322, Q_GW322, Q_GE322, Q_NB285_322, Q_NB322_285, Q_NB292_322, Q_NB322_292, Q_NB297_322, Q_NB322_297, Q_NB302_322, Q_NB322_302, Q_BK323, Q_GW323, Q_GE323, Q_NB285_323, Q_NB323_285, Q_NB292_323, Q_NB323_292, Q_NB297_323, Q_NB323_297, Q_NB302_323, Q_NB323_302, Q_BK321_e9, Q_BK322_e10, Q_BK323_e11, Q_X6_, Q_X7_, Q_X8_⟩ hb_ hon hoff
                      refine ⟨_, rfl, fun K hK => ?_⟩
                      have e9 : a.tmps[9]? = some (m6_) := by rw [ha]; exact putSel_on (e := (6, 9, m6_)) 6 rfl rfl (hon 6 (by kernel_rfl)) rfl
                      rw [Q_X6_ (hon 6 (by kernel_rfl))] at e9
                      have e31 : a.tmps[31]? = some (.agg #[.int .i64 t303, .bool t304, .string t305, .int .i64 t306, .int .i64 t307, .string t308]) := by rw [ha]; exact putSel_on (e := (1, 31, .agg #[.int .i64 t303, .bool t304, .string t305, .int .i64 t306, .int .i64 t307, .string t308])) 1 rfl rfl (hon 1 (by kernel_rfl)) rfl
                      replace ha := Aside0.mk ha
                      have BK285 := Aside0.mk Q_BK285
                      have BK292 := Aside0.mk Q_BK292
                      have BK297 := Aside0.mk Q_BK297
                      have BK302 := Aside0.mk Q_BK302
                      have HB := Aside0.mk Q_HB
                      have NB322_321 := Aside0.mk (Q_NB322_321 (hon 6 (by kernel_rfl)) (hon 7 (by kernel_rfl)))
                      have NB321_322 := Aside0.mk (Q_NB321_322 (hon 6 (by kernel_rfl)) (hon 7 (by kernel_rfl)))
                      have NB323_321 := Aside0.mk (Q_NB323_321 (hon 6 (by kernel_rfl)) (hon 8 (by kernel_rfl)))
                      have NB321_323 := Aside0.mk (Q_NB321_323 (hon 6 (by kernel_rfl)) (hon 8 (by kernel_rfl)))
                      have NB323_322 := Aside0.mk (Q_NB323_322 (hon 7 (by kernel_rfl)) (hon 8 (by kernel_rfl)))
                      have NB322_323 := Aside0.mk (Q_NB322_323 (hon 7 (by kernel_rfl)) (hon 8 (by kernel_rfl)))
                      have BK321 := Aside0.mk (Q_BK321 (hon 6 (by kernel_rfl)) hb_)
                      have GW321 := Aside0.mk (Q_GW321 (hon 6 (by kernel_rfl)))
                      have GE321 := Aside0.mk (Q_GE321 (hon 6 (by kernel_rfl)))
                      have NB285_321 := Aside0.mk (Q_NB285_321 (hon 6 (by kernel_rfl)))
                      have NB321_285 := Aside0.mk (Q_NB321_285 (hon 6 (by kernel_rfl)))
                      have NB292_321 := Aside0.mk (Q_NB292_321 (hon 6 (by kernel_rfl)))
                      have NB321_292 := Aside0.mk (Q_NB321_292 (hon 6 (by kernel_rfl)))
                      have NB297_321 := Aside0.mk (Q_NB297_321 (hon 6 (by kernel_rfl)))
                      have NB321_297 := Aside0.mk (Q_NB321_297 (hon 6 (by kernel_rfl)))
                      have NB302_321 := Aside0.mk (Q_NB302_321 (hon 6 (by kernel_rfl)))
                      have NB321_302 := Aside0.mk (Q_NB321_302 (hon 6 (by kernel_rfl)))
                      have BK322 := Aside0.mk (Q_BK322 (hon 7 (by kernel_rfl)) (hoff 10 (by kernel_rfl)))
                      have GW322 := Aside0.mk (Q_GW322 (hon 7 (by kernel_rfl)))
                      have GE322 := Aside0.mk (Q_GE322 (hon 7 (by kernel_rfl)))
                      have NB285_322 := Aside0.mk (Q_NB285_322 (hon 7 (by kernel_rfl)))
                      have NB322_285 := Aside0.mk (Q_NB322_285 (hon 7 (by kernel_rfl)))
                      have NB292_322 := Aside0.mk (Q_NB292_322 (hon 7 (by kernel_rfl)))
                      have NB322_292 := Aside0.mk (Q_NB322_292 (hon 7 (by kernel_rfl)))
                      have NB297_322 := Aside0.mk (Q_NB297_322 (hon 7 (by kernel_rfl)))
                      have NB322_297 := Aside0.mk (Q_NB322_297 (hon 7 (by kernel_rfl)))
                      have NB302_322 := Aside0.mk (Q_NB302_322 (hon 7 (by kernel_rfl)))
                      have NB322_302 := Aside0.mk (Q_NB322_302 (hon 7 (by kernel_rfl)))
                      have BK323 := Aside0.mk (Q_BK323 (hon 8 (by kernel_rfl)) (hoff 11 (by kernel_rfl)))
                      have GW323 := Aside0.mk (Q_GW323 (hon 8 (by kernel_rfl)))
                      have GE323 := Aside0.mk (Q_GE323 (hon 8 (by kernel_rfl)))
                      have NB285_323 := Aside0.mk (Q_NB285_323 (hon 8 (by kernel_rfl)))
                      have NB323_285 := Aside0.mk (Q_NB323_285 (hon 8 (by kernel_rfl)))
                      have NB292_323 := Aside0.mk (Q_NB292_323 (hon 8 (by kernel_rfl)))
                      have NB323_292 := Aside0.mk (Q_NB323_292 (hon 8 (by kernel_rfl)))
                      have NB297_323 := Aside0.mk (Q_NB297_323 (hon 8 (by kernel_rfl)))
                      have NB323_297 := Aside0.mk (Q_NB323_297 (hon 8 (by kernel_rfl)))
                      have NB302_323 := Aside0.mk (Q_NB302_323 (hon 8 (by kernel_rfl)))
                      have NB323_302 := Aside0.mk (Q_NB323_302 (hon 8 (by kernel_rfl)))
                      have hs58 : w'.cell? ⟨gb321, 0, none⟩ = some (.int .i64 0) := (blk_cell BK321.out 0).trans rfl
                      have hfs58 := blk_frozen BK321.out 0
                      have hns58_0 := NB285_321.out
                      have hns58_1 := NB292_321.out
                      have hns58_2 := NB297_321.out
                      have hns58_3 := NB302_321.out
                      have hns58_5 := NB322_321.out
                      have hns58_6 := NB323_321.out
                      have hms58_0 := NB321_285.out
                      have hms58_1 := NB321_292.out
                      have hms58_2 := NB321_297.out
                      have hms58_3 := NB321_302.out
                      have hms58_5 := NB321_322.out
                      have hms58_6 := NB321_323.out
                      have hs59 : w'.cell? ⟨gb321, 1, none⟩ = some (.bool false) := (blk_cell BK321.out 1).trans rfl
                      have hfs59 := blk_frozen BK321.out 1
                      have hns59_0 := NB285_321.out
                      have hns59_1 := NB292_321.out
                      have hns59_2 := NB297_321.out
                      have hns59_3 := NB302_321.out
                      have hns59_5 := NB322_321.out
                      have hns59_6 := NB323_321.out
                      have hms59_0 := NB321_285.out
                      have hms59_1 := NB321_292.out
                      have hms59_2 := NB321_297.out
                      have hms59_3 := NB321_302.out
                      have hms59_5 := NB321_322.out
                      have hms59_6 := NB321_323.out
                      have hs60 : w'.cell? ⟨gb321, 2, none⟩ = some (.string (⟨#[]⟩ : ByteArray)) := (blk_cell BK321.out 2).trans rfl
                      have hfs60 := blk_frozen BK321.out 2
                      have hns60_0 := NB285_321.out
                      have hns60_1 := NB292_321.out
                      have hns60_2 := NB297_321.out
                      have hns60_3 := NB302_321.out
                      have hns60_5 := NB322_321.out
                      have hns60_6 := NB323_321.out
                      have hms60_0 := NB321_285.out
                      have hms60_1 := NB321_292.out
                      have hms60_2 := NB321_297.out
                      have hms60_3 := NB321_302.out
                      have hms60_5 := NB321_322.out
                      have hms60_6 := NB321_323.out
                      have hs61 : w'.cell? ⟨gb321, 3, none⟩ = some (.int .i64 0) := (blk_cell BK321.out 3).trans rfl
                      have hfs61 := blk_frozen BK321.out 3
                      have hns61_0 := NB285_321.out
                      have hns61_1 := NB292_321.out
                      have hns61_2 := NB297_321.out
                      have hns61_3 := NB302_321.out
                      have hns61_5 := NB322_321.out
                      have hns61_6 := NB323_321.out
                      have hms61_0 := NB321_285.out
                      have hms61_1 := NB321_292.out
                      have hms61_2 := NB321_297.out
                      have hms61_3 := NB321_302.out
                      have hms61_5 := NB321_322.out
                      have hms61_6 := NB321_323.out
                      have hs62 : w'.cell? ⟨gb321, 4, none⟩ = some (.int .i64 0) := (blk_cell BK321.out 4).trans rfl
                      have hfs62 := blk_frozen BK321.out 4
                      have hns62_0 := NB285_321.out
                      have hns62_1 := NB292_321.out
                      have hns62_2 := NB297_321.out
                      have hns62_3 := NB302_321.out
                      have hns62_5 := NB322_321.out
                      have hns62_6 := NB323_321.out
                      have hms62_0 := NB321_285.out
                      have hms62_1 := NB321_292.out
                      have hms62_2 := NB321_297.out
                      have hms62_3 := NB321_302.out
                      have hms62_5 := NB321_322.out
                      have hms62_6 := NB321_323.out
                      have hs63 : w'.cell? ⟨gb321, 5, none⟩ = some (.string (⟨#[]⟩ : ByteArray)) := (blk_cell BK321.out 5).trans rfl
                      have hfs63 := blk_frozen BK321.out 5
                      have hns63_0 := NB285_321.out
                      have hns63_1 := NB292_321.out
                      have hns63_2 := NB297_321.out
                      have hns63_3 := NB302_321.out
                      have hns63_5 := NB322_321.out
                      have hns63_6 := NB323_321.out
                      have hms63_0 := NB321_285.out
                      have hms63_1 := NB321_292.out
                      have hms63_2 := NB321_297.out
                      have hms63_3 := NB321_302.out
                      have hms63_5 := NB321_322.out
                      have hms63_6 := NB321_323.out
                      refine skip_ (w1 := ?_) (by rfl) rfl ?_ ?_
                      rotate_left
                      · go_simp
                        rfl
                      refine hK.out _ _ ⟨gb321, gb322, gb323, m6_, m7_, m8_, (by rw [ha.out]; exact putSel_none (v := undef) rfl), (by refine zB (blk_far ?_ NB285_321.out _); refine zB ?_; refine blk_far ?_ NB285_321.out _; refine zB (blk_far ?_ NB285_321.out _); refine zB ?_; refine blk_far ?_ NB285_321.out _; refine zB (blk_far ?_ NB285_321.out _); refine zB (blk_far ?_ NB285_321.out _); refine zB ?_; exact BK285.out), (by refine zB (blk_far ?_ NB292_321.out _); refine zB ?_; refine blk_far ?_ NB292_321.out _; refine zB (blk_far ?_ NB292_321.out _); refine zB ?_; refine blk_far ?_ NB292_321.out _; refine zB (blk_far ?_ NB292_321.out _); refine zB (blk_far ?_ NB292_321.out _); refine zB ?_; exact BK292.out), (by refine zB (blk_far ?_ NB297_321.out _); refine zB ?_; refine blk_far ?_ NB297_321.out _; refine zB (blk_far ?_ NB297_321.out _); refine zB ?_; refine blk_far ?_ NB297_321.out _; refine zB (blk_far ?_ NB297_321.out _); refine zB (blk_far ?_ NB297_321.out _); refine zB ?_; exact BK297.out), (by refine zB (blk_far ?_ NB302_321.out _); refine zB ?_; refine blk_far ?_ NB302_321.out _; refine zB (blk_far ?_ NB302_321.out _); refine zB ?_; refine blk_far ?_ NB302_321.out _; refine zB (blk_far ?_ NB302_321.out _); refine zB (blk_far ?_ NB302_321.out _); refine zB ?_; exact BK302.out), (by repeat first | with_reducible exact HB.out | apply zS | refine below_set ?_ GE285.out | refine below_set ?_ GE292.out | refine below_set ?_ GE297.out | refine below_set ?_ GE302.out | refine below_set ?_ GE321.out | refine below_set ?_ GE322.out | refine below_set ?_ GE323.out | exact HB.out), fun _ _ => NB322_321.out, fun _ _ => NB321_322.out, fun _ _ => NB323_321.out, fun _ _ => NB321_323.out, fun _ _ => NB323_322.out, fun _ _ => NB322_323.out, fun _ h1_ => absurd ((up_self b 9).symm.trans h1_) (by decide), fun _ => GW321.out, fun _ => GE321.out, fun _ => NB285_321.out, fun _ => NB321_285.out, fun _ => NB292_321.out, fun _ => NB321_292.out, fun _ => NB297_321.out, fun _ => NB321_297.out, fun _ => NB302_321.out, fun _ => NB321_302.out, fun _ _ => (by refine zB (blk_far ?_ NB322_321.out _); refine zB ?_; refine blk_far ?_ NB322_321.out _; refine zB (blk_far ?_ NB322_321.out _); refine zB ?_; refine blk_far ?_ NB322_321.out _; refine zB (blk_far ?_ NB322_321.out _); refine zB (blk_far ?_ NB322_321.out _); refine zB ?_; exact BK322.out), fun _ => GW322.out, fun _ => GE322.out, fun _ => NB285_322.out, fun _ => NB322_285.out, fun _ => NB292_322.out, fun _ => NB322_292.out, fun _ => NB297_322.out, fun _ => NB322_297.out, fun _ => NB302_322.out, fun _ => NB322_302.out, fun _ _ => (by refine zB (blk_far ?_ NB323_321.out _); refine zB ?_; refine blk_far ?_ NB323_321.out _; refine zB (blk_far ?_ NB323_321.out _); refine zB ?_; refine blk_far ?_ NB323_321.out _; refine zB (blk_far ?_ NB323_321.out _); refine zB (blk_far ?_ NB323_321.out _); refine zB ?_; exact BK323.out), fun _ => GW323.out, fun _ => GE323.out, fun _ => NB285_323.out, fun _ => NB323_285.out, fun _ => NB292_323.out, fun _ => NB323_292.out, fun _ => NB297_323.out, fun _ => NB323_297.out, fun _ => NB302_323.out, fun _ => NB323_302.out, fun _ => (by refine zB ?_; refine blk_put (cs := #[.int .i64 t303, .bool t304, .string t305, .int .i64 t306, .int .i64 t307, .string (⟨#[]⟩ : ByteArray)]) ?_ 5 _ rfl; refine zB ?_; refine blk_put (cs := #[.int .i64 t303, .bool t304, .string t305, .int .i64 t306, .int .i64 0, .string (⟨#[]⟩ : ByteArray)]) ?_ 4 _ rfl; refine zB ?_; refine blk_put (cs := #[.int .i64 t303, .bool t304, .string t305, .int .i64 0, .int .i64 0, .string (⟨#[]⟩ : ByteArray)]) ?_ 3 _ rfl; refine zB ?_; refine blk_put (cs := #[.int .i64 t303, .bool t304, .string (⟨#[]⟩ : ByteArray), .int .i64 0, .int .i64 0, .string (⟨#[]⟩ : ByteArray)]) ?_ 2 _ rfl; refine zB ?_; refine blk_put (cs := #[.int .i64 t303, .bool false, .string (⟨#[]⟩ : ByteArray), .int .i64 0, .int .i64 0, .string (⟨#[]⟩ : ByteArray)]) ?_ 1 _ rfl; refine zB ?_; refine blk_put (cs := #[.int .i64 0, .bool false, .string (⟨#[]⟩ : ByteArray), .int .i64 0, .int .i64 0, .string (⟨#[]⟩ : ByteArray)]) ?_ 0 _ rfl; refine zB ?_; exact BK321.out), fun h0_ => absurd ((hoff 10 (by kernel_rfl)).symm.trans h0_) (by decide), fun h0_ => absurd ((hoff 11 (by kernel_rfl)).symm.trans h0_) (by decide), Q_X6_, Q_X7_, Q_X8_⟩
                    refine steps_cons ?_ ?_
                    · rintro b a w' ⟨gb321, gb322, gb323, m6_, m7_, m8_, ha, Q_BK285, Q_BK292, Q_BK297, Q_BK302, Q_HB, Q_NB322_321, Q_NB321_322, Q_NB323_321, Q_NB321_323, Q_NB323_322, Q_NB322_323, Q_BK321, Q_GW321, Q_GE321, Q_NB285_321, Q_NB321_285, Q_NB292_321, Q_NB321_292, Q_NB297_321, Q_NB321_297, Q_NB302_321, Q_NB321_302, Q_BK322, Q_GW322, Q_GE322, Q_NB285_322, Q_NB322_285, Q_NB292_322, Q_NB322_292, Q_NB297_322, Q_NB322_297, Q_NB302_322, Q_NB322_302, Q_BK323, Q_GW323, Q_GE323, Q_NB285_323, Q_NB323_285, Q_NB292_323, Q_NB323_292, Q_NB297_323, Q_NB323_297, Q_NB302_323, Q_NB323_302, Q_BK321_e9, Q_BK322_e10, Q_BK323_e11, Q_X6_, Q_X7_, Q_X8_⟩ hb_ hon hoff
                      refine ⟨_, rfl, fun K hK => ?_⟩
                      have e10 : a.tmps[10]? = some (m7_) := by rw [ha]; exact putSel_on (e := (7, 10, m7_)) 7 rfl rfl (hon 7 (by kernel_rfl)) rfl
                      rw [Q_X7_ (hon 7 (by kernel_rfl))] at e10
                      have e33 : a.tmps[33]? = some (.agg #[.int .i64 t309, .bool t310, .string t311, .int .i64 t312, .int .i64 t313, .string t314]) := by rw [ha]; exact putSel_on (e := (3, 33, .agg #[.int .i64 t309, .bool t310, .string t311, .int .i64 t312, .int .i64 t313, .string t314])) 3 rfl rfl (hon 3 (by kernel_rfl)) rfl
                      replace ha := Aside0.mk ha
                      have BK285 := Aside0.mk Q_BK285
                      have BK292 := Aside0.mk Q_BK292
                      have BK297 := Aside0.mk Q_BK297
                      have BK302 := Aside0.mk Q_BK302
                      have HB := Aside0.mk Q_HB
                      have NB322_321 := Aside0.mk (Q_NB322_321 (hon 6 (by kernel_rfl)) (hon 7 (by kernel_rfl)))
                      have NB321_322 := Aside0.mk (Q_NB321_322 (hon 6 (by kernel_rfl)) (hon 7 (by kernel_rfl)))
                      have NB323_321 := Aside0.mk (Q_NB323_321 (hon 6 (by kernel_rfl)) (hon 8 (by kernel_rfl)))
                      have NB321_323 := Aside0.mk (Q_NB321_323 (hon 6 (by kernel_rfl)) (hon 8 (by kernel_rfl)))
                      have NB323_322 := Aside0.mk (Q_NB323_322 (hon 7 (by kernel_rfl)) (hon 8 (by kernel_rfl)))
                      have NB322_323 := Aside0.mk (Q_NB322_323 (hon 7 (by kernel_rfl)) (hon 8 (by kernel_rfl)))
                      have GW321 := Aside0.mk (Q_GW321 (hon 6 (by kernel_rfl)))
                      have GE321 := Aside0.mk (Q_GE321 (hon 6 (by kernel_rfl)))
                      have NB285_321 := Aside0.mk (Q_NB285_321 (hon 6 (by kernel_rfl)))
                      have NB321_285 := Aside0.mk (Q_NB321_285 (hon 6 (by kernel_rfl)))
                      have NB292_321 := Aside0.mk (Q_NB292_321 (hon 6 (by kernel_rfl)))
                      have NB321_292 := Aside0.mk (Q_NB321_292 (hon 6 (by kernel_rfl)))
                      have NB297_321 := Aside0.mk (Q_NB297_321 (hon 6 (by kernel_rfl)))
                      have NB321_297 := Aside0.mk (Q_NB321_297 (hon 6 (by kernel_rfl)))
                      have NB302_321 := Aside0.mk (Q_NB302_321 (hon 6 (by kernel_rfl)))
                      have NB321_302 := Aside0.mk (Q_NB321_302 (hon 6 (by kernel_rfl)))
                      have BK322 := Aside0.mk (Q_BK322 (hon 7 (by kernel_rfl)) hb_)
                      have GW322 := Aside0.mk (Q_GW322 (hon 7 (by kernel_rfl)))
                      have GE322 := Aside0.mk (Q_GE322 (hon 7 (by kernel_rfl)))
                      have NB285_322 := Aside0.mk (Q_NB285_322 (hon 7 (by kernel_rfl)))
                      have NB322_285 := Aside0.mk (Q_NB322_285 (hon 7 (by kernel_rfl)))
                      have NB292_322 := Aside0.mk (Q_NB292_322 (hon 7 (by kernel_rfl)))
                      have NB322_292 := Aside0.mk (Q_NB322_292 (hon 7 (by kernel_rfl)))
                      have NB297_322 := Aside0.mk (Q_NB297_322 (hon 7 (by kernel_rfl)))
                      have NB322_297 := Aside0.mk (Q_NB322_297 (hon 7 (by kernel_rfl)))
                      have NB302_322 := Aside0.mk (Q_NB302_322 (hon 7 (by kernel_rfl)))
                      have NB322_302 := Aside0.mk (Q_NB322_302 (hon 7 (by kernel_rfl)))
                      have BK323 := Aside0.mk (Q_BK323 (hon 8 (by kernel_rfl)) (hoff 11 (by kernel_rfl)))
                      have GW323 := Aside0.mk (Q_GW323 (hon 8 (by kernel_rfl)))
                      have GE323 := Aside0.mk (Q_GE323 (hon 8 (by kernel_rfl)))
                      have NB285_323 := Aside0.mk (Q_NB285_323 (hon 8 (by kernel_rfl)))
                      have NB323_285 := Aside0.mk (Q_NB323_285 (hon 8 (by kernel_rfl)))
                      have NB292_323 := Aside0.mk (Q_NB292_323 (hon 8 (by kernel_rfl)))
                      have NB323_292 := Aside0.mk (Q_NB323_292 (hon 8 (by kernel_rfl)))
                      have NB297_323 := Aside0.mk (Q_NB297_323 (hon 8 (by kernel_rfl)))
                      have NB323_297 := Aside0.mk (Q_NB323_297 (hon 8 (by kernel_rfl)))
                      have NB302_323 := Aside0.mk (Q_NB302_323 (hon 8 (by kernel_rfl)))
                      have NB323_302 := Aside0.mk (Q_NB323_302 (hon 8 (by kernel_rfl)))
                      have BK321 := Aside0.mk (Q_BK321_e9 (hon 9 (by kernel_rfl)))
                      have hs64 : w'.cell? ⟨gb322, 0, none⟩ = some (.int .i64 0) := (blk_cell BK322.out 0).trans rfl
                      have hfs64 := blk_frozen BK322.out 0
                      have hns64_0 := NB285_322.out
                      have hns64_1 := NB292_322.out
                      have hns64_2 := NB297_322.out
                      have hns64_3 := NB302_322.out
                      have hns64_4 := NB321_322.out
                      have hns64_6 := NB323_322.out
                      have hms64_0 := NB322_285.out
                      have hms64_1 := NB322_292.out
                      have hms64_2 := NB322_297.out
                      have hms64_3 := NB322_302.out
                      have hms64_4 := NB322_321.out
                      have hms64_6 := NB322_323.out
                      have hs65 : w'.cell? ⟨gb322, 1, none⟩ = some (.bool false) := (blk_cell BK322.out 1).trans rfl
                      have hfs65 := blk_frozen BK322.out 1
                      have hns65_0 := NB285_322.out
                      have hns65_1 := NB292_322.out
                      have hns65_2 := NB297_322.out
                      have hns65_3 := NB302_322.out
                      have hns65_4 := NB321_322.out
                      have hns65_6 := NB323_322.out
                      have hms65_0 := NB322_285.out
                      have hms65_1 := NB322_292.out
                      have hms65_2 := NB322_297.out
                      have hms65_3 := NB322_302.out
                      have hms65_4 := NB322_321.out
                      have hms65_6 := NB322_323.out
                      have hs66 : w'.cell? ⟨gb322, 2, none⟩ = some (.string (⟨#[]⟩ : ByteArray)) := (blk_cell BK322.out 2).trans rfl
                      have hfs66 := blk_frozen BK322.out 2
                      have hns66_0 := NB285_322.out
                      have hns66_1 := NB292_322.out
                      have hns66_2 := NB297_322.out
                      have hns66_3 := NB302_322.out
                      have hns66_4 := NB321_322.out
                      have hns66_6 := NB323_322.out
                      have hms66_0 := NB322_285.out
                      have hms66_1 := NB322_292.out
                      have hms66_2 := NB322_297.out
                      have hms66_3 := NB322_302.out
                      have hms66_4 := NB322_321.out
                      have hms66_6 := NB322_323.out
                      have hs67 : w'.cell? ⟨gb322, 3, none⟩ = some (.int .i64 0) := (blk_cell BK322.out 3).trans rfl
                      have hfs67 := blk_frozen BK322.out 3
                      have hns67_0 := NB285_322.out
                      have hns67_1 := NB292_322.out
                      have hns67_2 := NB297_322.out
                      have hns67_3 := NB302_322.out
                      have hns67_4 := NB321_322.out
                      have hns67_6 := NB323_322.out
                      have hms67_0 := NB322_285.out
                      have hms67_1 := NB322_292.out
                      have hms67_2 := NB322_297.out
                      have hms67_3 := NB322_302.out
                      have hms67_4 := NB322_321.out
                      have hms67_6 := NB322_323.out
                      have hs68 : w'.cell? ⟨gb322, 4, none⟩ = some (.int .i64 0) := (blk_cell BK322.out 4).trans rfl
                      have hfs68 := blk_frozen BK322.out 4
                      have hns68_0 := NB285_322.out
                      have hns68_1 := NB292_322.out
                      have hns68_2 := NB297_322.out
                      have hns68_3 := NB302_322.out
                      have hns68_4 := NB321_322.out
                      have hns68_6 := NB323_322.out
                      have hms68_0 := NB322_285.out
                      have hms68_1 := NB322_292.out
                      have hms68_2 := NB322_297.out
                      have hms68_3 := NB322_302.out
                      have hms68_4 := NB322_321.out
                      have hms68_6 := NB322_323.out
                      have hs69 : w'.cell? ⟨gb322, 5, none⟩ = some (.string (⟨#[]⟩ : ByteArray)) := (blk_cell BK322.out 5).trans rfl
                      have hfs69 := blk_frozen BK322.out 5
                      have hns69_0 := NB285_322.out
                      have hns69_1 := NB292_322.out
                      have hns69_2 := NB297_322.out
                      have hns69_3 := NB302_322.out
                      have hns69_4 := NB321_322.out
                      have hns69_6 := NB323_322.out
                      have hms69_0 := NB322_285.out
                      have hms69_1 := NB322_292.out
                      have hms69_2 := NB322_297.out
                      have hms69_3 := NB322_302.out
                      have hms69_4 := NB322_321.out
                      have hms69_6 := NB322_323.out
                      refine skip_ (w1 := ?_) (by rfl) rfl ?_ ?_
                      rotate_left
                      · go_simp
                        rfl
                      refine hK.out _ _ ⟨gb321, gb322, gb323, m6_, m7_, m8_, (by rw [ha.out]; exact putSel_none (v := undef) rfl), (by refine zB (blk_far ?_ NB285_322.out _); refine zB ?_; refine blk_far ?_ NB285_322.out _; refine zB (blk_far ?_ NB285_322.out _); refine zB ?_; refine blk_far ?_ NB285_322.out _; refine zB (blk_far ?_ NB285_322.out _); refine zB (blk_far ?_ NB285_322.out _); refine zB ?_; exact BK285.out), (by refine zB (blk_far ?_ NB292_322.out _); refine zB ?_; refine blk_far ?_ NB292_322.out _; refine zB (blk_far ?_ NB292_322.out _); refine zB ?_; refine blk_far ?_ NB292_322.out _; refine zB (blk_far ?_ NB292_322.out _); refine zB (blk_far ?_ NB292_322.out _); refine zB ?_; exact BK292.out), (by refine zB (blk_far ?_ NB297_322.out _); refine zB ?_; refine blk_far ?_ NB297_322.out _; refine zB (blk_far ?_ NB297_322.out _); refine zB ?_; refine blk_far ?_ NB297_322.out _; refine zB (blk_far ?_ NB297_322.out _); refine zB (blk_far ?_ NB297_322.out _); refine zB ?_; exact BK297.out), (by refine zB (blk_far ?_ NB302_322.out _); refine zB ?_; refine blk_far ?_ NB302_322.out _; refine zB (blk_far ?_ NB302_322.out _); refine zB ?_; refine blk_far ?_ NB302_322.out _; refine zB (blk_far ?_ NB302_322.out _); refine zB (blk_far ?_ NB302_322.out _); refine zB ?_; exact BK302.out), (by repeat first | with_reducible exact HB.out | apply zS | refine below_set ?_ GE285.out | refine below_set ?_ GE292.out | refine below_set ?_ GE297.out | refine below_set ?_ GE302.out | refine below_set ?_ GE321.out | refine below_set ?_ GE322.out | refine below_set ?_ GE323.out | exact HB.out), fun _ _ => NB322_321.out, fun _ _ => NB321_322.out, fun _ _ => NB323_321.out, fun _ _ => NB321_323.out, fun _ _ => NB323_322.out, fun _ _ => NB322_323.out, fun _ h1_ => absurd ((hon 9 (by kernel_rfl)).symm.trans h1_) (by decide), fun _ => GW321.out, fun _ => GE321.out, fun _ => NB285_321.out, fun _ => NB321_285.out, fun _ => NB292_321.out, fun _ => NB321_292.out, fun _ => NB297_321.out, fun _ => NB321_297.out, fun _ => NB302_321.out, fun _ => NB321_302.out, fun _ h1_ => absurd ((up_self b 10).symm.trans h1_) (by decide), fun _ => GW322.out, fun _ => GE322.out, fun _ => NB285_322.out, fun _ => NB322_285.out, fun _ => NB292_322.out, fun _ => NB322_292.out, fun _ => NB297_322.out, fun _ => NB322_297.out, fun _ => NB302_322.out, fun _ => NB322_302.out, fun _ _ => (by refine zB (blk_far ?_ NB323_322.out _); refine zB ?_; refine blk_far ?_ NB323_322.out _; refine zB (blk_far ?_ NB323_322.out _); refine zB ?_; refine blk_far ?_ NB323_322.out _; refine zB (blk_far ?_ NB323_322.out _); refine zB (blk_far ?_ NB323_322.out _); refine zB ?_; exact BK323.out), fun _ => GW323.out, fun _ => GE323.out, fun _ => NB285_323.out, fun _ => NB323_285.out, fun _ => NB292_323.out, fun _ => NB323_292.out, fun _ => NB297_323.out, fun _ => NB323_297.out, fun _ => NB302_323.out, fun _ => NB323_302.out, fun _ => (by refine zB (blk_far ?_ NB321_322.out _); refine zB ?_; refine blk_far ?_ NB321_322.out _; refine zB (blk_far ?_ NB321_322.out _); refine zB ?_; refine blk_far ?_ NB321_322.out _; refine zB (blk_far ?_ NB321_322.out _); refine zB (blk_far ?_ NB321_322.out _); refine zB ?_; exact BK321.out), fun _ => (by refine zB ?_; refine blk_put (cs := #[.int .i64 t309, .bool t310, .string t311, .int .i64 t312, .int .i64 t313, .string (⟨#[]⟩ : ByteArray)]) ?_ 5 _ rfl; refine zB ?_; refine blk_put (cs := #[.int .i64 t309, .bool t310, .string t311, .int .i64 t312, .int .i64 0, .string (⟨#[]⟩ : ByteArray)]) ?_ 4 _ rfl; refine zB ?_; refine blk_put (cs := #[.int .i64 t309, .bool t310, .string t311, .int .i64 0, .int .i64 0, .string (⟨#[]⟩ : ByteArray)]) ?_ 3 _ rfl; refine zB ?_; refine blk_put (cs := #[.int .i64 t309, .bool t310, .string (⟨#[]⟩ : ByteArray), .int .i64 0, .int .i64 0, .string (⟨#[]⟩ : ByteArray)]) ?_ 2 _ rfl; refine zB ?_; refine blk_put (cs := #[.int .i64 t309, .bool false, .string (⟨#[]⟩ : ByteArray), .int .i64 0, .int .i64 0, .string (⟨#[]⟩ : ByteArray)]) ?_ 1 _ rfl; refine zB ?_; refine blk_put (cs := #[.int .i64 0, .bool false, .string (⟨#[]⟩ : ByteArray), .int .i64 0, .int .i64 0, .string (⟨#[]⟩ : ByteArray)]) ?_ 0 _ rfl; refine zB ?_; exact BK322.out), fun h0_ => absurd ((hoff 11 (by kernel_rfl)).symm.trans h0_) (by decide), Q_X6_, Q_X7_, Q_X8_⟩
                    refine steps_cons ?_ ?_
                    · rintro b a w' ⟨gb321, gb322, gb323, m6_, m7_, m8_, ha, Q_BK285, Q_BK292, Q_BK297, Q_BK302, Q_HB, Q_NB322_321, Q_NB321_322, Q_NB323_321, Q_NB321_323, Q_NB323_322, Q_NB322_323, Q_BK321, Q_GW321, Q_GE321, Q_NB285_321, Q_NB321_285, Q_NB292_321, Q_NB321_292, Q_NB297_321, Q_NB321_297, Q_NB302_321, Q_NB321_302, Q_BK322, Q_GW322, Q_GE322, Q_NB285_322, Q_NB322_285, Q_NB292_322, Q_NB322_292, Q_NB297_322, Q_NB322_297, Q_NB302_322, Q_NB322_302, Q_BK323, Q_GW323, Q_GE323, Q_NB285_323, Q_NB323_285, Q_NB292_323, Q_NB323_292, Q_NB297_323, Q_NB323_297, Q_NB302_323, Q_NB323_302, Q_BK321_e9, Q_BK322_e10, Q_BK323_e11, Q_X6_, Q_X7_, Q_X8_⟩ hb_ hon hoff
                      refine ⟨_, rfl, fun K hK => ?_⟩
                      have e11 : a.tmps[11]? = some (m8_) := by rw [ha]; exact putSel_on (e := (8, 11, m8_)) 8 rfl rfl (hon 8 (by kernel_rfl)) rfl
                      rw [Q_X8_ (hon 8 (by kernel_rfl))] at e11
                      have e35 : a.tmps[35]? = some (.agg #[.int .i64 t315, .bool t316, .string t317, .int .i64 t318, .int .i64 t319, .string t320]) := by rw [ha]; exact putSel_on (e := (5, 35, .agg #[.int .i64 t315, .bool t316, .string t317, .int .i64 t318, .int .i64 t319, .string t320])) 5 rfl rfl (hon 5 (by kernel_rfl)) rfl
                      replace ha := Aside0.mk ha
                      have BK285 := Aside0.mk Q_BK285
                      have BK292 := Aside0.mk Q_BK292
                      have BK297 := Aside0.mk Q_BK297
                      have BK302 := Aside0.mk Q_BK302
                      have HB := Aside0.mk Q_HB
                      have NB322_321 := Aside0.mk (Q_NB322_321 (hon 6 (by kernel_rfl)) (hon 7 (by kernel_rfl)))
                      have NB321_322 := Aside0.mk (Q_NB321_322 (hon 6 (by kernel_rfl)) (hon 7 (by kernel_rfl)))
                      have NB323_321 := Aside0.mk (Q_NB323_321 (hon 6 (by kernel_rfl)) (hon 8 (by kernel_rfl)))
                      have NB321_323 := Aside0.mk (Q_NB321_323 (hon 6 (by kernel_rfl)) (hon 8 (by kernel_rfl)))
                      have NB323_322 := Aside0.mk (Q_NB323_322 (hon 7 (by kernel_rfl)) (hon 8 (by kernel_rfl)))
                      have NB322_323 := Aside0.mk (Q_NB322_323 (hon 7 (by kernel_rfl)) (hon 8 (by kernel_rfl)))
                      have GW321 := Aside0.mk (Q_GW321 (hon 6 (by kernel_rfl)))
                      have GE321 := Aside0.mk (Q_GE321 (hon 6 (by kernel_rfl)))
                      have NB285_321 := Aside0.mk (Q_NB285_321 (hon 6 (by kernel_rfl)))
                      have NB321_285 := Aside0.mk (Q_NB321_285 (hon 6 (by kernel_rfl)))
                      have NB292_321 := Aside0.mk (Q_NB292_321 (hon 6 (by kernel_rfl)))
                      have NB321_292 := Aside0.mk (Q_NB321_292 (hon 6 (by kernel_rfl)))
                      have NB297_321 := Aside0.mk (Q_NB297_321 (hon 6 (by kernel_rfl)))
                      have NB321_297 := Aside0.mk (Q_NB321_297 (hon 6 (by kernel_rfl)))
                      have NB302_321 := Aside0.mk (Q_NB302_321 (hon 6 (by kernel_rfl)))
                      have NB321_302 := Aside0.mk (Q_NB321_302 (hon 6 (by kernel_rfl)))
                      have GW322 := Aside0.mk (Q_GW322 (hon 7 (by kernel_rfl)))
                      have GE322 := Aside0.mk (Q_GE322 (hon 7 (by kernel_rfl)))
                      have NB285_322 := Aside0.mk (Q_NB285_322 (hon 7 (by kernel_rfl)))
                      have NB322_285 := Aside0.mk (Q_NB322_285 (hon 7 (by kernel_rfl)))
                      have NB292_322 := Aside0.mk (Q_NB292_322 (hon 7 (by kernel_rfl)))
                      have NB322_292 := Aside0.mk (Q_NB322_292 (hon 7 (by kernel_rfl)))
                      have NB297_322 := Aside0.mk (Q_NB297_322 (hon 7 (by kernel_rfl)))
                      have NB322_297 := Aside0.mk (Q_NB322_297 (hon 7 (by kernel_rfl)))
                      have NB302_322 := Aside0.mk (Q_NB302_322 (hon 7 (by kernel_rfl)))
                      have NB322_302 := Aside0.mk (Q_NB322_302 (hon 7 (by kernel_rfl)))
                      have BK323 := Aside0.mk (Q_BK323 (hon 8 (by kernel_rfl)) hb_)
                      have GW323 := Aside0.mk (Q_GW323 (hon 8 (by kernel_rfl)))
                      have GE323 := Aside0.mk (Q_GE323 (hon 8 (by kernel_rfl)))
                      have NB285_323 := Aside0.mk (Q_NB285_323 (hon 8 (by kernel_rfl)))
                      have NB323_285 := Aside0.mk (Q_NB323_285 (hon 8 (by kernel_rfl)))
                      have NB292_323 := Aside0.mk (Q_NB292_323 (hon 8 (by kernel_rfl)))
                      have NB323_292 := Aside0.mk (Q_NB323_292 (hon 8 (by kernel_rfl)))
                      have NB297_323 := Aside0.mk (Q_NB297_323 (hon 8 (by kernel_rfl)))
                      have NB323_297 := Aside0.mk (Q_NB323_297 (hon 8 (by kernel_rfl)))
                      have NB302_323 := Aside0.mk (Q_NB302_323 (hon 8 (by kernel_rfl)))
                      have NB323_302 := Aside0.mk (Q_NB323_302 (hon 8 (by kernel_rfl)))
                      have BK321 := Aside0.mk (Q_BK321_e9 (hon 9 (by kernel_rfl)))
                      have BK322 := Aside0.mk (Q_BK322_e10 (hon 10 (by kernel_rfl)))
                      have hs70 : w'.cell? ⟨gb323, 0, none⟩ = some (.int .i64 0) := (blk_cell BK323.out 0).trans rfl
                      have hfs70 := blk_frozen BK323.out 0
                      have hns70_0 := NB285_323.out
                      have hns70_1 := NB292_323.out
                      have hns70_2 := NB297_323.out
                      have hns70_3 := NB302_323.out
                      have hns70_4 := NB321_323.out
                      have hns70_5 := NB322_323.out
                      have hms70_0 := NB323_285.out
                      have hms70_1 := NB323_292.out
                      have hms70_2 := NB323_297.out
                      have hms70_3 := NB323_302.out
                      have hms70_4 := NB323_321.out
                      have hms70_5 := NB323_322.out
                      have hs71 : w'.cell? ⟨gb323, 1, none⟩ = some (.bool false) := (blk_cell BK323.out 1).trans rfl
                      have hfs71 := blk_frozen BK323.out 1
                      have hns71_0 := NB285_323.out
                      have hns71_1 := NB292_323.out
                      have hns71_2 := NB297_323.out
                      have hns71_3 := NB302_323.out
                      have hns71_4 := NB321_323.out
                      have hns71_5 := NB322_323.out
                      have hms71_0 := NB323_285.out
                      have hms71_1 := NB323_292.out
                      have hms71_2 := NB323_297.out
                      have hms71_3 := NB323_302.out
                      have hms71_4 := NB323_321.out
                      have hms71_5 := NB323_322.out
                      have hs72 : w'.cell? ⟨gb323, 2, none⟩ = some (.string (⟨#[]⟩ : ByteArray)) := (blk_cell BK323.out 2).trans rfl
                      have hfs72 := blk_frozen BK323.out 2
                      have hns72_0 := NB285_323.out
                      have hns72_1 := NB292_323.out
                      have hns72_2 := NB297_323.out
                      have hns72_3 := NB302_323.out
                      have hns72_4 := NB321_323.out
                      have hns72_5 := NB322_323.out
                      have hms72_0 := NB323_285.out
                      have hms72_1 := NB323_292.out
                      have hms72_2 := NB323_297.out
                      have hms72_3 := NB323_302.out
                      have hms72_4 := NB323_321.out
                      have hms72_5 := NB323_322.out
                      have hs73 : w'.cell? ⟨gb323, 3, none⟩ = some (.int .i64 0) := (blk_cell BK323.out 3).trans rfl
                      have hfs73 := blk_frozen BK323.out 3
                      have hns73_0 := NB285_323.out
                      have hns73_1 := NB292_323.out
                      have hns73_2 := NB297_323.out
                      have hns73_3 := NB302_323.out
                      have hns73_4 := NB321_323.out
                      have hns73_5 := NB322_323.out
                      have hms73_0 := NB323_285.out
                      have hms73_1 := NB323_292.out
                      have hms73_2 := NB323_297.out
                      have hms73_3 := NB323_302.out
                      have hms73_4 := NB323_321.out
                      have hms73_5 := NB323_322.out
                      have hs74 : w'.cell? ⟨gb323, 4, none⟩ = some (.int .i64 0) := (blk_cell BK323.out 4).trans rfl
                      have hfs74 := blk_frozen BK323.out 4
                      have hns74_0 := NB285_323.out
                      have hns74_1 := NB292_323.out
                      have hns74_2 := NB297_323.out
                      have hns74_3 := NB302_323.out
                      have hns74_4 := NB321_323.out
                      have hns74_5 := NB322_323.out
                      have hms74_0 := NB323_285.out
                      have hms74_1 := NB323_292.out
                      have hms74_2 := NB323_297.out
                      have hms74_3 := NB323_302.out
                      have hms74_4 := NB323_321.out
                      have hms74_5 := NB323_322.out
                      have hs75 : w'.cell? ⟨gb323, 5, none⟩ = some (.string (⟨#[]⟩ : ByteArray)) := (blk_cell BK323.out 5).trans rfl
                      have hfs75 := blk_frozen BK323.out 5
                      have hns75_0 := NB285_323.out
                      have hns75_1 := NB292_323.out
                      have hns75_2 := NB297_323.out
                      have hns75_3 := NB302_323.out
                      have hns75_4 := NB321_323.out
                      have hns75_5 := NB322_323.out
                      have hms75_0 := NB323_285.out
                      have hms75_1 := NB323_292.out
                      have hms75_2 := NB323_297.out
                      have hms75_3 := NB323_302.out
                      have hms75_4 := NB323_321.out
                      have hms75_5 := NB323_322.out
                      refine skip_ (w1 := ?_) (by rfl) rfl ?_ ?_
                      rotate_left
                      · go_simp
                        rfl
                      refine hK.out _ _ ⟨gb321, gb322, gb323, m6_, m7_, m8_, (by rw [ha.out]; exact putSel_none (v := undef) rfl), (by refine zB (blk_far ?_ NB285_323.out _); refine zB ?_; refine blk_far ?_ NB285_323.out _; refine zB (blk_far ?_ NB285_323.out _); refine zB ?_; refine blk_far ?_ NB285_323.out _; refine zB (blk_far ?_ NB285_323.out _); refine zB (blk_far ?_ NB285_323.out _); refine zB ?_; exact BK285.out), (by refine zB (blk_far ?_ NB292_323.out _); refine zB ?_; refine blk_far ?_ NB292_323.out _; refine zB (blk_far ?_ NB292_323.out _); refine zB ?_; refine blk_far ?_ NB292_323.out _; refine zB (blk_far ?_ NB292_323.out _); refine zB (blk_far ?_ NB292_323.out _); refine zB ?_; exact BK292.out), (by refine zB (blk_far ?_ NB297_323.out _); refine zB ?_; refine blk_far ?_ NB297_323.out _; refine zB (blk_far ?_ NB297_323.out _); refine zB ?_; refine blk_far ?_ NB297_323.out _; refine zB (blk_far ?_ NB297_323.out _); refine zB (blk_far ?_ NB297_323.out _); refine zB ?_; exact BK297.out), (by refine zB (blk_far ?_ NB302_323.out _); refine zB ?_; refine blk_far ?_ NB302_323.out _; refine zB (blk_far ?_ NB302_323.out _); refine zB ?_; refine blk_far ?_ NB302_323.out _; refine zB (blk_far ?_ NB302_323.out _); refine zB (blk_far ?_ NB302_323.out _); refine zB ?_; exact BK302.out), (by repeat first | with_reducible exact HB.out | apply zS | refine below_set ?_ GE285.out | refine below_set ?_ GE292.out | refine below_set ?_ GE297.out | refine below_set ?_ GE302.out | refine below_set ?_ GE321.out | refine below_set ?_ GE322.out | refine below_set ?_ GE323.out | exact HB.out), fun _ _ => NB322_321.out, fun _ _ => NB321_322.out, fun _ _ => NB323_321.out, fun _ _ => NB321_323.out, fun _ _ => NB323_322.out, fun _ _ => NB322_323.out, fun _ h1_ => absurd ((hon 9 (by kernel_rfl)).symm.trans h1_) (by decide), fun _ => GW321.out, fun _ => GE321.out, fun _ => NB285_321.out, fun _ => NB321_285.out, fun _ => NB292_321.out, fun _ => NB321_292.out, fun _ => NB297_321.out, fun _ => NB321_297.out, fun _ => NB302_321.out, fun _ => NB321_302.out, fun _ h1_ => absurd ((hon 10 (by kernel_rfl)).symm.trans h1_) (by decide), fun _ => GW322.out, fun _ => GE322.out, fun _ => NB285_322.out, fun _ => NB322_285.out, fun _ => NB292_322.out, fun _ => NB322_292.out, fun _ => NB297_322.out, fun _ => NB322_297.out, fun _ => NB302_322.out, fun _ => NB322_302.out, fun _ h1_ => absurd ((up_self b 11).symm.trans h1_) (by decide), fun _ => GW323.out, fun _ => GE323.out, fun _ => NB285_323.out, fun _ => NB323_285.out, fun _ => NB292_323.out, fun _ => NB323_292.out, fun _ => NB297_323.out, fun _ => NB323_297.out, fun _ => NB302_323.out, fun _ => NB323_302.out, fun _ => (by refine zB (blk_far ?_ NB321_323.out _); refine zB ?_; refine blk_far ?_ NB321_323.out _; refine zB (blk_far ?_ NB321_323.out _); refine zB ?_; refine blk_far ?_ NB321_323.out _; refine zB (blk_far ?_ NB321_323.out _); refine zB (blk_far ?_ NB321_323.out _); refine zB ?_; exact BK321.out), fun _ => (by refine zB (blk_far ?_ NB322_323.out _); refine zB ?_; refine blk_far ?_ NB322_323.out _; refine zB (blk_far ?_ NB322_323.out _); refine zB ?_; refine blk_far ?_ NB322_323.out _; refine zB (blk_far ?_ NB322_323.out _); refine zB (blk_far ?_ NB322_323.out _); refine zB ?_; exact BK322.out), fun _ => (by refine zB ?_; refine blk_put (cs := #[.int .i64 t315, .bool t316, .string t317, .int .i64 t318, .int .i64 t319, .string (⟨#[]⟩ : ByteArray)]) ?_ 5 _ rfl; refine zB ?_; refine blk_put (cs := #[.int .i64 t315, .bool t316, .string t317, .int .i64 t318, .int .i64 0, .string (⟨#[]⟩ : ByteArray)]) ?_ 4 _ rfl; refine zB ?_; refine blk_put (cs := #[.int .i64 t315, .bool t316, .string t317, .int .i64 0, .int .i64 0, .string (⟨#[]⟩ : ByteArray)]) ?_ 3 _ rfl; refine zB ?_; refine blk_put (cs := #[.int .i64 t315, .bool t316, .string (⟨#[]⟩ : ByteArray), .int .i64 0, .int .i64 0, .string (⟨#[]⟩ : ByteArray)]) ?_ 2 _ rfl; refine zB ?_; refine blk_put (cs := #[.int .i64 t315, .bool false, .string (⟨#[]⟩ : ByteArray), .int .i64 0, .int .i64 0, .string (⟨#[]⟩ : ByteArray)]) ?_ 1 _ rfl; refine zB ?_; refine blk_put (cs := #[.int .i64 0, .bool false, .string (⟨#[]⟩ : ByteArray), .int .i64 0, .int .i64 0, .string (⟨#[]⟩ : ByteArray)]) ?_ 0 _ rfl; refine zB ?_; exact BK323.out), Q_X6_, Q_X7_, Q_X8_⟩
                    exact steps_nil
                  rintro b a w75 hall ⟨gb321, gb322, gb323, m6_, m7_, m8_, ha, Q_BK285, Q_BK292, Q_BK297, Q_BK302, Q_HB, Q_NB322_321, Q_NB321_322, Q_NB323_321, Q_NB321_323, Q_NB323_322, Q_NB322_323, Q_BK321, Q_GW321, Q_GE321, Q_NB285_321, Q_NB321_285, Q_NB292_321, Q_NB321_292, Q_NB297_321, Q_NB321_297, Q_NB302_321, Q_NB321_302, Q_BK322, Q_GW322, Q_GE322, Q_NB285_322, Q_NB322_285, Q_NB292_322, Q_NB322_292, Q_NB297_322, Q_NB322_297, Q_NB302_322, Q_NB322_302, Q_BK323, Q_GW323, Q_GE323, Q_NB285_323, Q_NB323_285, Q_NB292_323, Q_NB323_292, Q_NB297_323, Q_NB323_297, Q_NB302_323, Q_NB323_302, Q_BK321_e9, Q_BK322_e10, Q_BK323_e11, Q_X6_, Q_X7_, Q_X8_⟩
                  clear BK285 BK292 BK297 BK302 HB
                  have hb0_ := hall 0 (by kernel_rfl)
                  have hb1_ := hall 1 (by kernel_rfl)
                  have hb2_ := hall 2 (by kernel_rfl)
                  have hb3_ := hall 3 (by kernel_rfl)
                  have hb4_ := hall 4 (by kernel_rfl)
                  have hb5_ := hall 5 (by kernel_rfl)
                  have hb6_ := hall 6 (by kernel_rfl)
                  have hb7_ := hall 7 (by kernel_rfl)
                  have hb8_ := hall 8 (by kernel_rfl)
                  have hb9_ := hall 9 (by kernel_rfl)
                  have hb10_ := hall 10 (by kernel_rfl)
                  have hb11_ := hall 11 (by kernel_rfl)
                  subst ha
                  obtain rfl := Q_X6_ hb6_
                  obtain rfl := Q_X7_ hb7_
                  obtain rfl := Q_X8_ hb8_
                  simp only [putSel, hb0_, hb1_, hb2_, hb3_, hb4_, hb5_, hb6_, hb7_, hb8_, hb9_, hb10_, hb11_, if_true, Act.put, List.setIfInBounds_toArray, List.set_cons_zero, List.set_cons_succ]
                  have BK285 := Aside0.mk Q_BK285
                  clear Q_BK285
                  have BK292 := Aside0.mk Q_BK292
                  clear Q_BK292
                  have BK297 := Aside0.mk Q_BK297
                  clear Q_BK297
                  have BK302 := Aside0.mk Q_BK302
                  clear Q_BK302
                  have HB := Aside0.mk Q_HB
                  clear Q_HB
                  have NB322_321 := Aside0.mk (Q_NB322_321 hb6_ hb7_)
                  clear Q_NB322_321
                  have NB321_322 := Aside0.mk (Q_NB321_322 hb6_ hb7_)
                  clear Q_NB321_322
                  have NB323_321 := Aside0.mk (Q_NB323_321 hb6_ hb8_)
                  clear Q_NB323_321
                  have NB321_323 := Aside0.mk (Q_NB321_323 hb6_ hb8_)
                  clear Q_NB321_323
                  have NB323_322 := Aside0.mk (Q_NB323_322 hb7_ hb8_)
                  clear Q_NB323_322
                  have NB322_323 := Aside0.mk (Q_NB322_323 hb7_ hb8_)
                  clear Q_NB322_323
                  clear Q_BK321
                  have GW321 := Aside0.mk (Q_GW321 hb6_)
                  clear Q_GW321
                  have GE321 := Aside0.mk (Q_GE321 hb6_)
                  clear Q_GE321
                  have NB285_321 := Aside0.mk (Q_NB285_321 hb6_)
                  clear Q_NB285_321
                  have NB321_285 := Aside0.mk (Q_NB321_285 hb6_)
                  clear Q_NB321_285
                  have NB292_321 := Aside0.mk (Q_NB292_321 hb6_)
                  clear Q_NB292_321
                  have NB321_292 := Aside0.mk (Q_NB321_292 hb6_)
                  clear Q_NB321_292
                  have NB297_321 := Aside0.mk (Q_NB297_321 hb6_)
                  clear Q_NB297_321
                  have NB321_297 := Aside0.mk (Q_NB321_297 hb6_)
                  clear Q_NB321_297
                  have NB302_321 := Aside0.mk (Q_NB302_321 hb6_)
                  clear Q_NB302_321
                  have NB321_302 := Aside0.mk (Q_NB321_302 hb6_)
                  clear Q_NB321_302
                  clear Q_BK322
                  have GW322 := Aside0.mk (Q_GW322 hb7_)
                  clear Q_GW322
                  have GE322 := Aside0.mk (Q_GE322 hb7_)
                  clear Q_GE322
                  have NB285_322 := Aside0.mk (Q_NB285_322 hb7_)
                  clear Q_NB285_322
                  have NB322_285 := Aside0.mk (Q_NB322_285 hb7_)
                  clear Q_NB322_285
                  have NB292_322 := Aside0.mk (Q_NB292_322 hb7_)
                  clear Q_NB292_322
                  have NB322_292 := Aside0.mk (Q_NB322_292 hb7_)
                  clear Q_NB322_292
                  have NB297_322 := Aside0.mk (Q_NB297_322 hb7_)
                  clear Q_NB297_322
                  have NB322_297 := Aside0.mk (Q_NB322_297 hb7_)
                  clear Q_NB322_297
                  have NB302_322 := Aside0.mk (Q_NB302_322 hb7_)
                  clear Q_NB302_322
                  have NB322_302 := Aside0.mk (Q_NB322_302 hb7_)
                  clear Q_NB322_302
                  clear Q_BK323
                  have GW323 := Aside0.mk (Q_GW323 hb8_)
                  clear Q_GW323
                  have GE323 := Aside0.mk (Q_GE323 hb8_)
                  clear Q_GE323
                  have NB285_323 := Aside0.mk (Q_NB285_323 hb8_)
                  clear Q_NB285_323
                  have NB323_285 := Aside0.mk (Q_NB323_285 hb8_)
                  clear Q_NB323_285
                  have NB292_323 := Aside0.mk (Q_NB292_323 hb8_)
                  clear Q_NB292_323
                  have NB323_292 := Aside0.mk (Q_NB323_292 hb8_)
                  clear Q_NB323_292
                  have NB297_323 := Aside0.mk (Q_NB297_323 hb8_)
                  clear Q_NB297_323
                  have NB323_297 := Aside0.mk (Q_NB323_297 hb8_)
                  clear Q_NB323_297
                  have NB302_323 := Aside0.mk (Q_NB302_323 hb8_)
                  clear Q_NB302_323
                  have NB323_302 := Aside0.mk (Q_NB323_302 hb8_)
                  clear Q_NB323_302
                  have BK321 := Aside0.mk (Q_BK321_e9 hb9_)
                  clear Q_BK321_e9
                  have BK322 := Aside0.mk (Q_BK322_e10 hb10_)
                  clear Q_BK322_e10
                  have BK323 := Aside0.mk (Q_BK323_e11 hb11_)
                  clear Q_BK323_e11
                  clear hall hb0_ hb1_ hb2_ hb3_ hb4_ hb5_ hb6_ hb7_ hb8_ hb9_ hb10_ hb11_
                  try go_wp2
                  have n0_ := Aside0.mk (blk_drew BK285.out)
                  have n1_ := Aside0.mk (blk_drew BK292.out)
                  have n2_ := Aside0.mk (blk_drew BK297.out)
                  have n3_ := Aside0.mk (blk_drew BK302.out)
                  have n4_ := Aside0.mk (blk_drew BK321.out)
                  have n5_ := Aside0.mk (blk_drew BK322.out)
                  have n6_ := Aside0.mk (blk_drew BK323.out)
                  have n7_ := Aside0.mk (below_drew1 HB.out)
                  clear BK285
                  clear BK292
                  clear BK297
                  clear BK302
                  clear BK321
                  clear BK322
                  clear BK323
                  clear HB
                  have BK285 := n0_
                  have BK292 := n1_
                  have BK297 := n2_
                  have BK302 := n3_
                  have BK321 := n4_
                  have BK322 := n5_
                  have BK323 := n6_
                  have HB := n7_
                  clear n0_ n1_ n2_ n3_ n4_ n5_ n6_ n7_
                  refine start_ (n := 45) (S := fun w' => w'.cell? ⟨gb285, 0, none⟩ = some (.int .i64 a0_0) ∧ w'.cell? ⟨gb285, 1, none⟩ = some (.int .i64 a0_1) ∧ w'.cell? ⟨gb285, 2, none⟩ = some (.string a0_2) ∧ w'.cell? ⟨gb321, 0, none⟩ = some (.int .i64 t303) ∧ w'.cell? ⟨gb321, 1, none⟩ = some (.bool t304) ∧ w'.cell? ⟨gb321, 2, none⟩ = some (.string t305) ∧ w'.cell? ⟨gb321, 3, none⟩ = some (.int .i64 t306) ∧ w'.cell? ⟨gb321, 4, none⟩ = some (.int .i64 t307) ∧ w'.cell? ⟨gb321, 5, none⟩ = some (.string t308) ∧ w'.cell? ⟨gb292, 0, none⟩ = some (.int .i64 t289) ∧ w'.cell? ⟨gb292, 1, none⟩ = some (.int .i64 t290) ∧ w'.cell? ⟨gb292, 2, none⟩ = some (.string t291) ∧ w'.cell? ⟨gb322, 0, none⟩ = some (.int .i64 t309) ∧ w'.cell? ⟨gb322, 1, none⟩ = some (.bool t310) ∧ w'.cell? ⟨gb322, 2, none⟩ = some (.string t311) ∧ w'.cell? ⟨gb322, 3, none⟩ = some (.int .i64 t312) ∧ w'.cell? ⟨gb322, 4, none⟩ = some (.int .i64 t313) ∧ w'.cell? ⟨gb322, 5, none⟩ = some (.string t314) ∧ w'.cell? ⟨gb297, 0, none⟩ = some (.int .i64 t294) ∧ w'.cell? ⟨gb297, 1, none⟩ = some (.int .i64 t295) ∧ w'.cell? ⟨gb297, 2, none⟩ = some (.string t296) ∧ w'.cell? ⟨gb323, 0, none⟩ = some (.int .i64 t315) ∧ w'.cell? ⟨gb323, 1, none⟩ = some (.bool t316) ∧ w'.cell? ⟨gb323, 2, none⟩ = some (.string t317) ∧ w'.cell? ⟨gb323, 3, none⟩ = some (.int .i64 t318) ∧ w'.cell? ⟨gb323, 4, none⟩ = some (.int .i64 t319) ∧ w'.cell? ⟨gb323, 5, none⟩ = some (.string t320) ∧ w'.cell? ⟨gb302, 0, none⟩ = some (.int .i64 t299) ∧ w'.cell? ⟨gb302, 1, none⟩ = some (.int .i64 t300) ∧ w'.cell? ⟨gb302, 2, none⟩ = some (.string t301)) (ds := []) #[false, false, false, false, false, false, false, false, false, false, false, false, false, false, false, false, false, false, false, false, false, false, false, false, false, false, false, false, false, false, false, false, false, false, false, false, false, false, false, false, false, false, false, false, false] (by kernel_rfl) rfl rfl ⟨(blk_cell BK285.out 0).trans rfl, (blk_cell BK285.out 1).trans rfl, (blk_cell BK285.out 2).trans rfl, (blk_cell BK321.out 0).trans rfl, (blk_cell BK321.out 1).trans rfl, (blk_cell BK321.out 2).trans rfl, (blk_cell BK321.out 3).trans rfl, (blk_cell BK321.out 4).trans rfl, (blk_cell BK321.out 5).trans rfl, (blk_cell BK292.out 0).trans rfl, (blk_cell BK292.out 1).trans rfl, (blk_cell BK292.out 2).trans rfl, (blk_cell BK322.out 0).trans rfl, (blk_cell BK322.out 1).trans rfl, (blk_cell BK322.out 2).trans rfl, (blk_cell BK322.out 3).trans rfl, (blk_cell BK322.out 4).trans rfl, (blk_cell BK322.out 5).trans rfl, (blk_cell BK297.out 0).trans rfl, (blk_cell BK297.out 1).trans rfl, (blk_cell BK297.out 2).trans rfl, (blk_cell BK323.out 0).trans rfl, (blk_cell BK323.out 1).trans rfl, (blk_cell BK323.out 2).trans rfl, (blk_cell BK323.out 3).trans rfl, (blk_cell BK323.out 4).trans rfl, (blk_cell BK323.out 5).trans rfl, (blk_cell BK302.out 0).trans rfl, (blk_cell BK302.out 1).trans rfl, (blk_cell BK302.out 2).trans rfl⟩ (fun hHeld => ?_); refine with_tabW pannierlaw03_ValueAs.tab7 pannierlaw03_ValueAs.bits7 (fun HT_ HW_ => ?_)
                  generalize w75.drew = w76 at BK285 BK292 BK297 BK302 BK321 BK322 BK323 HB hHeld ⊢
                  refine take_ (i := 0) (N := some 36) (v := ?_) (a' := ?_) #[true, false, false, false, false, false, false, false, false, false, false, false, false, false, false, false, false, false, false, false, false, false, false, false, false, false, false, false, false, false, false, false, false, false, false, false, false, false, false, false, false, false, false, false, false] rfl rfl (take_ofW HT_.out HW_.out (by kernel_rfl)) (fun _ _ _ h => h) (Or.inl ⟨by rfl, ?_⟩) hHeld ?_ ?_
                  rotate_left
                  · rintro w' ⟨s0, s1, s2, s3, s4, s5, s6, s7, s8, s9, s10, s11, s12, s13, s14, s15, s16, s17, s18, s19, s20, s21, s22, s23, s24, s25, s26, s27, s28, s29⟩
                    go_simp
                    with_reducible rfl
                  rotate_left
                  · simp only [Act.put, List.setIfInBounds_toArray, List.set_cons_zero, List.set_cons_succ, i64_w, i32_w]
                    rfl
                  refine take_ (i := 2) (N := some 38) (v := ?_) (a' := ?_) #[true, false, true, false, false, false, false, false, false, false, false, false, false, false, false, false, false, false, false, false, false, false, false, false, false, false, false, false, false, false, false, false, false, false, false, false, false, false, false, false, false, false, false, false, false] rfl rfl (take_ofW HT_.out HW_.out (by kernel_rfl)) (fun _ _ _ h => h) (Or.inl ⟨by rfl, ?_⟩) hHeld ?_ ?_
                  rotate_left
                  · rintro w' ⟨s0, s1, s2, s3, s4, s5, s6, s7, s8, s9, s10, s11, s12, s13, s14, s15, s16, s17, s18, s19, s20, s21, s22, s23, s24, s25, s26, s27, s28, s29⟩
                    go_simp
                    with_reducible rfl
                  rotate_left
                  · simp only [Act.put, List.setIfInBounds_toArray, List.set_cons_zero, List.set_cons_succ, i64_w, i32_w]
                    rfl
                  refine one_ (i := 1) (N := some 37) #[true, true, true, false, false, false, false, false, false, false, false, false, false, false, false, false, false, false, false, false, false, false, false, false, false, false, false, false, false, false, false, false, false, false, false, false, false, false, false, false, false, false, false, false, false] rfl rfl (one_of HT_.out (by kernel_rfl)) (by decide) (fun K hK => ?_)
                  refine goes_ Tryd.func22 (by kernel_rfl) rfl #[.agg #[.int .i64 a0_0, .int .i64 a0_1, .string a0_2]] (by rfl) rfl rfl (by (try simp only [List.map_toArray, List.map_cons, List.map_nil]); first | done | rfl | (simp only [List.length_drop, List.length_take]; rfl)) ?_
                  with_reducible refine (value_Show.calls a0_0 a0_1 a0_2 t324 _ ?side1 A15.out).mono ?_
                  (case side1 => exact gl_2_1 (by repeat first | with_reducible exact HB.out | apply zS | refine below_set ?_ GE285.out | refine below_set ?_ GE292.out | refine below_set ?_ GE297.out | refine below_set ?_ GE302.out | refine below_set ?_ GE321.out | refine below_set ?_ GE322.out | refine below_set ?_ GE323.out | exact HB.out) hG)
                  rintro e w77 ⟨rfl, hb⟩
                  refine ⟨_, rfl, ?_⟩
                  have n0_ := Aside0.mk (blk_below (g := gb285) (o := .cells #[.int .i64 a0_0, .int .i64 a0_1, .string a0_2] 42 (0, 0)) (zB BK285.out) hb)
                  have n1_ := Aside0.mk (blk_below (g := gb292) (o := .cells #[.int .i64 t289, .int .i64 t290, .string t291] 42 (0, 0)) (zB BK292.out) hb)
                  have n2_ := Aside0.mk (blk_below (g := gb297) (o := .cells #[.int .i64 t294, .int .i64 t295, .string t296] 42 (0, 0)) (zB BK297.out) hb)
                  have n3_ := Aside0.mk (blk_below (g := gb302) (o := .cells #[.int .i64 t299, .int .i64 t300, .string t301] 42 (0, 0)) (zB BK302.out) hb)
                  have n4_ := Aside0.mk (blk_below (g := gb321) (o := .cells #[.int .i64 t303, .bool t304, .string t305, .int .i64 t306, .int .i64 t307, .string t308] 51 (0, 0)) (zB BK321.out) hb)
                  have n5_ := Aside0.mk (blk_below (g := gb322) (o := .cells #[.int .i64 t309, .bool t310, .string t311, .int .i64 t312, .int .i64 t313, .string t314] 51 (0, 0)) (zB BK322.out) hb)
                  have n6_ := Aside0.mk (blk_below (g := gb323) (o := .cells #[.int .i64 t315, .bool t316, .string t317, .int .i64 t318, .int .i64 t319, .string t320] 51 (0, 0)) (zB BK323.out) hb)
                  have n7_ := Aside0.mk (below_step (by repeat first | with_reducible exact HB.out | apply zS | refine below_set ?_ GE285.out | refine below_set ?_ GE292.out | refine below_set ?_ GE297.out | refine below_set ?_ GE302.out | refine below_set ?_ GE321.out | refine below_set ?_ GE322.out | refine below_set ?_ GE323.out | exact HB.out) hb)
                  clear BK285
                  clear BK292
                  clear BK297
                  clear BK302
                  clear BK321
                  clear BK322
                  clear BK323
                  clear HB
                  have BK285 := n0_
                  have BK292 := n1_
                  have BK297 := n2_
                  have BK302 := n3_
                  have BK321 := n4_
                  have BK322 := n5_
                  have BK323 := n6_
                  have HB := n7_
                  clear n0_ n1_ n2_ n3_ n4_ n5_ n6_ n7_
                  (try clear hb)
                  (try clear hb2)
                  (try clear hk)
                  (try clear hi)
                  refine hK.out _ _ ⟨(blk_cell BK285.out 0).trans rfl, (blk_cell BK285.out 1).trans rfl, (blk_cell BK285.out 2).trans rfl, (blk_cell BK321.out 0).trans rfl, (blk_cell BK321.out 1).trans rfl, (blk_cell BK321.out 2).trans rfl, (blk_cell BK321.out 3).trans rfl, (blk_cell BK321.out 4).trans rfl, (blk_cell BK321.out 5).trans rfl, (blk_cell BK292.out 0).trans rfl, (blk_cell BK292.out 1).trans rfl, (blk_cell BK292.out 2).trans rfl, (blk_cell BK322.out 0).trans rfl, (blk_cell BK322.out 1).trans rfl, (blk_cell BK322.out 2).trans rfl, (blk_cell BK322.out 3).trans rfl, (blk_cell BK322.out 4).trans rfl, (blk_cell BK322.out 5).trans rfl, (blk_cell BK297.out 0).trans rfl, (blk_cell BK297.out 1).trans rfl, (blk_cell BK297.out 2).trans rfl, (blk_cell BK323.out 0).trans rfl, (blk_cell BK323.out 1).trans rfl, (blk_cell BK323.out 2).trans rfl, (blk_cell BK323.out 3).trans rfl, (blk_cell BK323.out 4).trans rfl, (blk_cell BK323.out 5).trans rfl, (blk_cell BK302.out 0).trans rfl, (blk_cell BK302.out 1).trans rfl, (blk_cell BK302.out 2).trans rfl⟩ (fun hHeld => ?_)
                  clear hK K
                  refine norm_ (a' := ?_) ?_ ?_
                  rotate_left
                  · show Act.put _ (some 37) _ = _
                    simp only [Act.put, List.setIfInBounds_toArray, List.set_cons_zero, List.set_cons_succ, i64_w, i32_w]
                    rfl
                  refine one_ (i := 3) (N := some 39) #[true, true, true, true, false, false, false, false, false, false, false, false, false, false, false, false, false, false, false, false, false, false, false, false, false, false, false, false, false, false, false, false, false, false, false, false, false, false, false, false, false, false, false, false, false] rfl rfl (one_of HT_.out (by kernel_rfl)) (by decide) (fun K hK => ?_)
                  refine goes_ Tryd.func23 (by kernel_rfl) rfl #[.agg #[.int .i64 a0_0, .int .i64 a0_1, .string a0_2]] (by rfl) rfl rfl (by (try simp only [List.map_toArray, List.map_cons, List.map_nil]); first | done | rfl | (simp only [List.length_drop, List.length_take]; rfl)) ?_
                  with_reducible refine (pannierref03_Show.calls k a0_0 a0_1 a0_2 t325 _ A16.out).mono ?_
                  rintro e w78 ⟨rfl, hb⟩
                  refine ⟨_, rfl, ?_⟩
                  have n0_ := Aside0.mk (blk_below (g := gb285) (o := .cells #[.int .i64 a0_0, .int .i64 a0_1, .string a0_2] 42 (0, 0)) (zB BK285.out) hb)
                  have n1_ := Aside0.mk (blk_below (g := gb292) (o := .cells #[.int .i64 t289, .int .i64 t290, .string t291] 42 (0, 0)) (zB BK292.out) hb)
                  have n2_ := Aside0.mk (blk_below (g := gb297) (o := .cells #[.int .i64 t294, .int .i64 t295, .string t296] 42 (0, 0)) (zB BK297.out) hb)
                  have n3_ := Aside0.mk (blk_below (g := gb302) (o := .cells #[.int .i64 t299, .int .i64 t300, .string t301] 42 (0, 0)) (zB BK302.out) hb)
                  have n4_ := Aside0.mk (blk_below (g := gb321) (o := .cells #[.int .i64 t303, .bool t304, .string t305, .int .i64 t306, .int .i64 t307, .string t308] 51 (0, 0)) (zB BK321.out) hb)
                  have n5_ := Aside0.mk (blk_below (g := gb322) (o := .cells #[.int .i64 t309, .bool t310, .string t311, .int .i64 t312, .int .i64 t313, .string t314] 51 (0, 0)) (zB BK322.out) hb)
                  have n6_ := Aside0.mk (blk_below (g := gb323) (o := .cells #[.int .i64 t315, .bool t316, .string t317, .int .i64 t318, .int .i64 t319, .string t320] 51 (0, 0)) (zB BK323.out) hb)
                  have n7_ := Aside0.mk (below_step (by repeat first | with_reducible exact HB.out | apply zS | refine below_set ?_ GE285.out | refine below_set ?_ GE292.out | refine below_set ?_ GE297.out | refine below_set ?_ GE302.out | refine below_set ?_ GE321.out | refine below_set ?_ GE322.out | refine below_set ?_ GE323.out | exact HB.out) hb)
                  clear BK285
                  clear BK292
                  clear BK297
                  clear BK302
                  clear BK321
                  clear BK322
                  clear BK323
                  clear HB
                  have BK285 := n0_
                  have BK292 := n1_
                  have BK297 := n2_
                  have BK302 := n3_
                  have BK321 := n4_
                  have BK322 := n5_
                  have BK323 := n6_
                  have HB := n7_
                  clear n0_ n1_ n2_ n3_ n4_ n5_ n6_ n7_
                  (try clear hb)
                  (try clear hb2)
                  (try clear hk)
                  (try clear hi)
                  refine hK.out _ _ ⟨(blk_cell BK285.out 0).trans rfl, (blk_cell BK285.out 1).trans rfl, (blk_cell BK285.out 2).trans rfl, (blk_cell BK321.out 0).trans rfl, (blk_cell BK321.out 1).trans rfl, (blk_cell BK321.out 2).trans rfl, (blk_cell BK321.out 3).trans rfl, (blk_cell BK321.out 4).trans rfl, (blk_cell BK321.out 5).trans rfl, (blk_cell BK292.out 0).trans rfl, (blk_cell BK292.out 1).trans rfl, (blk_cell BK292.out 2).trans rfl, (blk_cell BK322.out 0).trans rfl, (blk_cell BK322.out 1).trans rfl, (blk_cell BK322.out 2).trans rfl, (blk_cell BK322.out 3).trans rfl, (blk_cell BK322.out 4).trans rfl, (blk_cell BK322.out 5).trans rfl, (blk_cell BK297.out 0).trans rfl, (blk_cell BK297.out 1).trans rfl, (blk_cell BK297.out 2).trans rfl, (blk_cell BK323.out 0).trans rfl, (blk_cell BK323.out 1).trans rfl, (blk_cell BK323.out 2).trans rfl, (blk_cell BK323.out 3).trans rfl, (blk_cell BK323.out 4).trans rfl, (blk_cell BK323.out 5).trans rfl, (blk_cell BK302.out 0).trans rfl, (blk_cell BK302.out 1).trans rfl, (blk_cell BK302.out 2).trans rfl⟩ (fun hHeld => ?_)
                  clear hK K
                  refine norm_ (a' := ?_) ?_ ?_
                  rotate_left
                  · show Act.put _ (some 39) _ = _
                    simp only [Act.put, List.setIfInBounds_toArray, List.set_cons_zero, List.set_cons_succ, i64_w, i32_w]
                    rfl
                  refine pure_ (i := 4) (N := some 40) (v := ?_) (a' := ?_) #[true, true, true, true, true, false, false, false, false, false, false, false, false, false, false, false, false, false, false, false, false, false, false, false, false, false, false, false, false, false, false, false, false, false, false, false, false, false, false, false, false, false, false, false, false] rfl rfl (any_of HT_.out (by kernel_rfl)) (fun _ _ _ h => h) (Or.inl ⟨by rfl, ?_⟩) ?_ ?_
                  rotate_left
                  · intro w'
                    go_simp
                    with_reducible rfl
                  rotate_left
                  · simp only [Act.put, List.setIfInBounds_toArray, List.set_cons_zero, List.set_cons_succ, i64_w, i32_w]
                    rfl
                  refine pure_ (i := 5) (N := some 41) (v := ?_) (a' := ?_) #[true, true, true, true, true, true, false, false, false, false, false, false, false, false, false, false, false, false, false, false, false, false, false, false, false, false, false, false, false, false, false, false, false, false, false, false, false, false, false, false, false, false, false, false, false] rfl rfl (any_of HT_.out (by kernel_rfl)) (fun _ _ _ h => h) (Or.inl ⟨by rfl, ?_⟩) ?_ ?_
                  rotate_left
                  · intro w'
                    go_simp
                    with_reducible rfl
                  rotate_left
                  · simp only [Act.put, List.setIfInBounds_toArray, List.set_cons_zero, List.set_cons_succ, i64_w, i32_w]
                    rfl
                  refine pure_ (i := 6) (N := some 42) (v := ?_) (a' := ?_) #[true, true, true, true, true, true, true, false, false, false, false, false, false, false, false, false, false, false, false, false, false, false, false, false, false, false, false, false, false, false, false, false, false, false, false, false, false, false, false, false, false, false, false, false, false] rfl rfl (any_of HT_.out (by kernel_rfl)) (fun _ _ _ h => h) (Or.inl ⟨by rfl, ?_⟩) ?_ ?_
                  rotate_left
                  · intro w'
                    go_simp
                    with_reducible rfl
                  rotate_left
                  · simp only [Act.put, List.setIfInBounds_toArray, List.set_cons_zero, List.set_cons_succ, i64_w, i32_w]
                    rfl
                  refine pure_ (i := 7) (N := some 43) (v := ?_) (a' := ?_) #[true, true, true, true, true, true, true, true, false, false, false, false, false, false, false, false, false, false, false, false, false, false, false, false, false, false, false, false, false, false, false, false, false, false, false, false, false, false, false, false, false, false, false, false, false] rfl rfl (any_of HT_.out (by kernel_rfl)) (fun _ _ _ h => h) (Or.inl ⟨by rfl, ?_⟩) ?_ ?_
                  rotate_left
                  · intro w'
                    go_simp
                    with_reducible rfl
                  rotate_left
                  · simp only [Act.put, List.setIfInBounds_toArray, List.set_cons_zero, List.set_cons_succ, i64_w, i32_w]
                    rfl
                  refine take_ (i := 8) (N := some 44) (v := ?_) (a' := ?_) #[true, true, true, true, true, true, true, true, true, false, false, false, false, false, false, false, false, false, false, false, false, false, false, false, false, false, false, false, false, false, false, false, false, false, false, false, false, false, false, false, false, false, false, false, false] rfl rfl (take_ofW HT_.out HW_.out (by kernel_rfl)) (fun _ _ _ h => h) (Or.inl ⟨by rfl, ?_⟩) hHeld ?_ ?_
                  rotate_left
                  · rintro w' ⟨s0, s1, s2, s3, s4, s5, s6, s7, s8, s9, s10, s11, s12, s13, s14, s15, s16, s17, s18, s19, s20, s21, s22, s23, s24, s25, s26, s27, s28, s29⟩
                    go_simp
                    with_reducible rfl
                  rotate_left
                  · simp only [Act.put, List.setIfInBounds_toArray, List.set_cons_zero, List.set_cons_succ, i64_w, i32_w]
                    rfl
                  refine pure_ (i := 9) (N := some 45) (v := ?_) (a' := ?_) #[true, true, true, true, true, true, true, true, true, true, false, false, false, false, false, false, false, false, false, false, false, false, false, false, false, false, false, false, false, false, false, false, false, false, false, false, false, false, false, false, false, false, false, false, false] rfl rfl (any_of HT_.out (by kernel_rfl)) (fun _ _ _ h => h) (Or.inl ⟨by rfl, ?_⟩) ?_ ?_
                  rotate_left
                  · intro w'
                    go_simp
                    with_reducible rfl
                  rotate_left
                  · simp only [Act.put, List.setIfInBounds_toArray, List.set_cons_zero, List.set_cons_succ, i64_w, i32_w]
                    rfl
                  refine pure_ (i := 10) (N := some 46) (v := ?_) (a' := ?_) #[true, true, true, true, true, true, true, true, true, true, true, false, false, false, false, false, false, false, false, false, false, false, false, false, false, false, false, false, false, false, false, false, false, false, false, false, false, false, false, false, false, false, false, false, false] rfl rfl (any_of HT_.out (by kernel_rfl)) (fun _ _ _ h => h) (Or.inl ⟨by rfl, ?_⟩) ?_ ?_
                  rotate_left
                  · intro w'
                    go_simp
                    with_reducible rfl
                  rotate_left
                  · simp only [Act.put, List.setIfInBounds_toArray, List.set_cons_zero, List.set_cons_succ, i64_w, i32_w]
                    rfl
                  refine pure_ (i := 11) (N := some 47) (v := ?_) (a' := ?_) #[true, true, true, true, true, true, true, true, true, true, true, true, false, false, false, false, false, false, false, false, false, false, false, false, false, false, false, false, false, false, false, false, false, false, false, false, false, false, false, false, false, false, false, false, false] rfl rfl (any_of HT_.out (by kernel_rfl)) (fun _ _ _ h => h) (Or.inl ⟨by rfl, ?_⟩) ?_ ?_
                  rotate_left
                  · intro w'
                    go_simp
                    with_reducible rfl
                  rotate_left
                  · simp only [Act.put, List.setIfInBounds_toArray, List.set_cons_zero, List.set_cons_succ, i64_w, i32_w]
                    rfl
                  refine pure_ (i := 13) (N := some 49) (v := ?_) (a' := ?_) #[true, true, true, true, true, true, true, true, true, true, true, true, false, true, false, false, false, false, false, false, false, false, false, false, false, false, false, false, false, false, false, false, false, false, false, false, false, false, false, false, false, false, false, false, false] rfl rfl (any_of HT_.out (by kernel_rfl)) (fun _ _ _ h => h) (Or.inl ⟨by rfl, ?_⟩) ?_ ?_
                  rotate_left
                  · intro w'
                    go_simp
                    with_reducible rfl
                  rotate_left
                  · simp only [Act.put, List.setIfInBounds_toArray, List.set_cons_zero, List.set_cons_succ, i64_w, i32_w]
                    rfl
                  refine take_ (i := 12) (N := some 48) (v := ?_) (a' := ?_) #[true, true, true, true, true, true, true, true, true, true, true, true, true, true, false, false, false, false, false, false, false, false, false, false, false, false, false, false, false, false, false, false, false, false, false, false, false, false, false, false, false, false, false, false, false] rfl rfl (take_ofW HT_.out HW_.out (by kernel_rfl)) (fun _ _ _ h => h) (Or.inl ⟨by rfl, ?_⟩) hHeld ?_ ?_
                  rotate_left
                  · rintro w' ⟨s0, s1, s2, s3, s4, s5, s6, s7, s8, s9, s10, s11, s12, s13, s14, s15, s16, s17, s18, s19, s20, s21, s22, s23, s24, s25, s26, s27, s28, s29⟩
                    go_simp
                    with_reducible rfl
                  rotate_left
                  · simp only [Act.put, List.setIfInBounds_toArray, List.set_cons_zero, List.set_cons_succ, i64_w, i32_w]
                    rfl
                  refine take_ (i := 14) (N := some 50) (v := ?_) (a' := ?_) #[true, true, true, true, true, true, true, true, true, true, true, true, true, true, true, false, false, false, false, false, false, false, false, false, false, false, false, false, false, false, false, false, false, false, false, false, false, false, false, false, false, false, false, false, false] rfl rfl (take_ofW HT_.out HW_.out (by kernel_rfl)) (fun _ _ _ h => h) (Or.inl ⟨by rfl, ?_⟩) hHeld ?_ ?_
                  rotate_left
                  · rintro w' ⟨s0, s1, s2, s3, s4, s5, s6, s7, s8, s9, s10, s11, s12, s13, s14, s15, s16, s17, s18, s19, s20, s21, s22, s23, s24, s25, s26, s27, s28, s29⟩
                    go_simp
                    with_reducible rfl
                  rotate_left
                  · simp only [Act.put, List.setIfInBounds_toArray, List.set_cons_zero, List.set_cons_succ, i64_w, i32_w]
                    rfl
                  refine one_ (i := 15) (N := some 51) #[true, true, true, true, true, true, true, true, true, true, true, true, true, true, true, true, false, false, false, false, false, false, false, false, false, false, false, false, false, false, false, false, false, false, false, false, false, false, false, false, false, false, false, false, false] rfl rfl (one_of HT_.out (by kernel_rfl)) (by decide) (fun K hK => ?_)
                  refine goes_ Tryd.func24 (by kernel_rfl) rfl #[.agg #[.int .i64 t289, .int .i64 t290, .string t291], .agg #[.int .i64 t306, .int .i64 t307, .string t308]] (by rfl) rfl rfl (by (try simp only [List.map_toArray, List.map_cons, List.map_nil]); first | done | rfl | (simp only [List.length_drop, List.length_take]; rfl)) ?_
                  with_reducible refine (pannierkeep_Value.calls t289 t290 t291 t306 t307 t308 true _ A19.out).mono ?_
                  rintro e w79 ⟨rfl, hb⟩
                  refine ⟨_, rfl, ?_⟩
                  have n0_ := Aside0.mk (blk_below (g := gb285) (o := .cells #[.int .i64 a0_0, .int .i64 a0_1, .string a0_2] 42 (0, 0)) (zB BK285.out) hb)
                  have n1_ := Aside0.mk (blk_below (g := gb292) (o := .cells #[.int .i64 t289, .int .i64 t290, .string t291] 42 (0, 0)) (zB BK292.out) hb)
                  have n2_ := Aside0.mk (blk_below (g := gb297) (o := .cells #[.int .i64 t294, .int .i64 t295, .string t296] 42 (0, 0)) (zB BK297.out) hb)
                  have n3_ := Aside0.mk (blk_below (g := gb302) (o := .cells #[.int .i64 t299, .int .i64 t300, .string t301] 42 (0, 0)) (zB BK302.out) hb)
                  have n4_ := Aside0.mk (blk_below (g := gb321) (o := .cells #[.int .i64 t303, .bool t304, .string t305, .int .i64 t306, .int .i64 t307, .string t308] 51 (0, 0)) (zB BK321.out) hb)
                  have n5_ := Aside0.mk (blk_below (g := gb322) (o := .cells #[.int .i64 t309, .bool t310, .string t311, .int .i64 t312, .int .i64 t313, .string t314] 51 (0, 0)) (zB BK322.out) hb)
                  have n6_ := Aside0.mk (blk_below (g := gb323) (o := .cells #[.int .i64 t315, .bool t316, .string t317, .int .i64 t318, .int .i64 t319, .string t320] 51 (0, 0)) (zB BK323.out) hb)
                  have n7_ := Aside0.mk (below_step (by repeat first | with_reducible exact HB.out | apply zS | refine below_set ?_ GE285.out | refine below_set ?_ GE292.out | refine below_set ?_ GE297.out | refine below_set ?_ GE302.out | refine below_set ?_ GE321.out | refine below_set ?_ GE322.out | refine below_set ?_ GE323.out | exact HB.out) hb)
                  clear BK285
                  clear BK292
                  clear BK297
                  clear BK302
                  clear BK321
                  clear BK322
                  clear BK323
                  clear HB
                  have BK285 := n0_
                  have BK292 := n1_
                  have BK297 := n2_
                  have BK302 := n3_
                  have BK321 := n4_
                  have BK322 := n5_
                  have BK323 := n6_
                  have HB := n7_
                  clear n0_ n1_ n2_ n3_ n4_ n5_ n6_ n7_
                  (try clear hb)
                  (try clear hb2)
                  (try clear hk)
                  (try clear hi)
                  refine hK.out _ _ ⟨(blk_cell BK285.out 0).trans rfl, (blk_cell BK285.out 1).trans rfl, (blk_cell BK285.out 2).trans rfl, (blk_cell BK321.out 0).trans rfl, (blk_cell BK321.out 1).trans rfl, (blk_cell BK321.out 2).trans rfl, (blk_cell BK321.out 3).trans rfl, (blk_cell BK321.out 4).trans rfl, (blk_cell BK321.out 5).trans rfl, (blk_cell BK292.out 0).trans rfl, (blk_cell BK292.out 1).trans rfl, (blk_cell BK292.out 2).trans rfl, (blk_cell BK322.out 0).trans rfl, (blk_cell BK322.out 1).trans rfl, (blk_cell BK322.out 2).trans rfl, (blk_cell BK322.out 3).trans rfl, (blk_cell BK322.out 4).trans rfl, (blk_cell BK322.out 5).trans rfl, (blk_cell BK297.out 0).trans rfl, (blk_cell BK297.out 1).trans rfl, (blk_cell BK297.out 2).trans rfl, (blk_cell BK323.out 0).trans rfl, (blk_cell BK323.out 1).trans rfl, (blk_cell BK323.out 2).trans rfl, (blk_cell BK323.out 3).trans rfl, (blk_cell BK323.out 4).trans rfl, (blk_cell BK323.out 5).trans rfl, (blk_cell BK302.out 0).trans rfl, (blk_cell BK302.out 1).trans rfl, (blk_cell BK302.out 2).trans rfl⟩ (fun hHeld => ?_)
                  clear hK K
                  refine norm_ (a' := ?_) ?_ ?_
                  rotate_left
                  · show Act.put _ (some 51) _ = _
                    simp only [Act.put, List.setIfInBounds_toArray, List.set_cons_zero, List.set_cons_succ, i64_w, i32_w]
                    rfl
                  refine pure_ (i := 16) (N := some 52) (v := ?_) (a' := ?_) #[true, true, true, true, true, true, true, true, true, true, true, true, true, true, true, true, true, false, false, false, false, false, false, false, false, false, false, false, false, false, false, false, false, false, false, false, false, false, false, false, false, false, false, false, false] rfl rfl (any_of HT_.out (by kernel_rfl)) (fun _ _ _ h => h) (Or.inl ⟨by rfl, ?_⟩) ?_ ?_
                  rotate_left
                  · intro w'
                    go_simp
                    with_reducible rfl
                  rotate_left
                  · simp only [Act.put, List.setIfInBounds_toArray, List.set_cons_zero, List.set_cons_succ, i64_w, i32_w]
                    rfl
                  refine pure_ (i := 17) (N := some 53) (v := ?_) (a' := ?_) #[true, true, true, true, true, true, true, true, true, true, true, true, true, true, true, true, true, true, false, false, false, false, false, false, false, false, false, false, false, false, false, false, false, false, false, false, false, false, false, false, false, false, false, false, false] rfl rfl (any_of HT_.out (by kernel_rfl)) (fun _ _ _ h => h) (Or.inl ⟨by rfl, ?_⟩) ?_ ?_
                  rotate_left
                  · intro w'
                    go_simp
                    with_reducible rfl
                  rotate_left
                  · simp only [Act.put, List.setIfInBounds_toArray, List.set_cons_zero, List.set_cons_succ, i64_w, i32_w]
                    rfl
                  refine pure_ (i := 18) (N := some 54) (v := ?_) (a' := ?_) #[true, true, true, true, true, true, true, true, true, true, true, true, true, true, true, true, true, true, true, false, false, false, false, false, false, false, false, false, false, false, false, false, false, false, false, false, false, false, false, false, false, false, false, false, false] rfl rfl (any_of HT_.out (by kernel_rfl)) (fun _ _ _ h => h) (Or.inl ⟨by rfl, ?_⟩) ?_ ?_
                  rotate_left
                  · intro w'
                    go_simp
                    with_reducible rfl
                  rotate_left
                  · simp only [Act.put, List.setIfInBounds_toArray, List.set_cons_zero, List.set_cons_succ, i64_w, i32_w]
                    rfl
                  refine pure_ (i := 19) (N := some 55) (v := ?_) (a' := ?_) #[true, true, true, true, true, true, true, true, true, true, true, true, true, true, true, true, true, true, true, true, false, false, false, false, false, false, false, false, false, false, false, false, false, false, false, false, false, false, false, false, false, false, false, false, false] rfl rfl (any_of HT_.out (by kernel_rfl)) (fun _ _ _ h => h) (Or.inl ⟨by rfl, ?_⟩) ?_ ?_
                  rotate_left
                  · intro w'
                    go_simp
                    with_reducible rfl
                  rotate_left
                  · simp only [Act.put, List.setIfInBounds_toArray, List.set_cons_zero, List.set_cons_succ, i64_w, i32_w]
                    rfl
                  refine take_ (i := 20) (N := some 56) (v := ?_) (a' := ?_) #[true, true, true, true, true, true, true, true, true, true, true, true, true, true, true, true, true, true, true, true, true, false, false, false, false, false, false, false, false, false, false, false, false, false, false, false, false, false, false, false, false, false, false, false, false] rfl rfl (take_ofW HT_.out HW_.out (by kernel_rfl)) (fun _ _ _ h => h) (Or.inl ⟨by rfl, ?_⟩) hHeld ?_ ?_
                  rotate_left
                  · rintro w' ⟨s0, s1, s2, s3, s4, s5, s6, s7, s8, s9, s10, s11, s12, s13, s14, s15, s16, s17, s18, s19, s20, s21, s22, s23, s24, s25, s26, s27, s28, s29⟩
                    go_simp
                    with_reducible rfl
                  rotate_left
                  · simp only [Act.put, List.setIfInBounds_toArray, List.set_cons_zero, List.set_cons_succ, i64_w, i32_w]
                    rfl
                  refine pure_ (i := 21) (N := some 57) (v := ?_) (a' := ?_) #[true, true, true, true, true, true, true, true, true, true, true, true, true, true, true, true, true, true, true, true, true, true, false, false, false, false, false, false, false, false, false, false, false, false, false, false, false, false, false, false, false, false, false, false, false] rfl rfl (any_of HT_.out (by kernel_rfl)) (fun _ _ _ h => h) (Or.inl ⟨by rfl, ?_⟩) ?_ ?_
                  rotate_left
                  · intro w'
                    go_simp
                    with_reducible rfl
                  rotate_left
                  · simp only [Act.put, List.setIfInBounds_toArray, List.set_cons_zero, List.set_cons_succ, i64_w, i32_w]
                    rfl
                  refine pure_ (i := 22) (N := some 58) (v := ?_) (a' := ?_) #[true, true, true, true, true, true, true, true, true, true, true, true, true, true, true, true, true, true, true, true, true, true, true, false, false, false, false, false, false, false, false, false, false, false, false, false, false, false, false, false, false, false, false, false, false] rfl rfl (any_of HT_.out (by kernel_rfl)) (fun _ _ _ h => h) (Or.inl ⟨by rfl, ?_⟩) ?_ ?_
                  rotate_left
                  · intro w'
                    go_simp
                    with_reducible rfl
                  rotate_left
                  · simp only [Act.put, List.setIfInBounds_toArray, List.set_cons_zero, List.set_cons_succ, i64_w, i32_w]
                    rfl
                  refine pure_ (i := 23) (N := some 59) (v := ?_) (a' := ?_) #[true, true, true, true, true, true, true, true, true, true, true, true, true, true, true, true, true, true, true, true, true, true, true, true, false, false, false, false, false, false, false, false, false, false, false, false, false, false, false, false, false, false, false, false, false] rfl rfl (any_of HT_.out (by kernel_rfl)) (fun _ _ _ h => h) (Or.inl ⟨by rfl, ?_⟩) ?_ ?_
                  rotate_left
                  · intro w'
                    go_simp
                    with_reducible rfl
                  rotate_left
                  · simp only [Act.put, List.setIfInBounds_toArray, List.set_cons_zero, List.set_cons_succ, i64_w, i32_w]
                    rfl
                  refine pure_ (i := 25) (N := some 61) (v := ?_) (a' := ?_) #[true, true, true, true, true, true, true, true, true, true, true, true, true, true, true, true, true, true, true, true, true, true, true, true, false, true, false, false, false, false, false, false, false, false, false, false, false, false, false, false, false, false, false, false, false] rfl rfl (any_of HT_.out (by kernel_rfl)) (fun _ _ _ h => h) (Or.inl ⟨by rfl, ?_⟩) ?_ ?_
                  rotate_left
                  · intro w'
                    go_simp
                    with_reducible rfl
                  rotate_left
                  · simp only [Act.put, List.setIfInBounds_toArray, List.set_cons_zero, List.set_cons_succ, i64_w, i32_w]
                    rfl
                  refine take_ (i := 24) (N := some 60) (v := ?_) (a' := ?_) #[true, true, true, true, true, true, true, true, true, true, true, true, true, true, true, true, true, true, true, true, true, true, true, true, true, true, false, false, false, false, false, false, false, false, false, false, false, false, false, false, false, false, false, false, false] rfl rfl (take_ofW HT_.out HW_.out (by kernel_rfl)) (fun _ _ _ h => h) (Or.inl ⟨by rfl, ?_⟩) hHeld ?_ ?_
                  rotate_left
                  · rintro w' ⟨s0, s1, s2, s3, s4, s5, s6, s7, s8, s9, s10, s11, s12, s13, s14, s15, s16, s17, s18, s19, s20, s21, s22, s23, s24, s25, s26, s27, s28, s29⟩
                    go_simp
                    with_reducible rfl
                  rotate_left
                  · simp only [Act.put, List.setIfInBounds_toArray, List.set_cons_zero, List.set_cons_succ, i64_w, i32_w]
                    rfl
                  refine take_ (i := 26) (N := some 62) (v := ?_) (a' := ?_) #[true, true, true, true, true, true, true, true, true, true, true, true, true, true, true, true, true, true, true, true, true, true, true, true, true, true, true, false, false, false, false, false, false, false, false, false, false, false, false, false, false, false, false, false, false] rfl rfl (take_ofW HT_.out HW_.out (by kernel_rfl)) (fun _ _ _ h => h) (Or.inl ⟨by rfl, ?_⟩) hHeld ?_ ?_
                  rotate_left
                  · rintro w' ⟨s0, s1, s2, s3, s4, s5, s6, s7, s8, s9, s10, s11, s12, s13, s14, s15, s16, s17, s18, s19, s20, s21, s22, s23, s24, s25, s26, s27, s28, s29⟩
                    go_simp
                    with_reducible rfl
                  rotate_left
                  · simp only [Act.put, List.setIfInBounds_toArray, List.set_cons_zero, List.set_cons_succ, i64_w, i32_w]
                    rfl
                  refine one_ (i := 27) (N := some 63) #[true, true, true, true, true, true, true, true, true, true, true, true, true, true, true, true, true, true, true, true, true, true, true, true, true, true, true, true, false, false, false, false, false, false, false, false, false, false, false, false, false, false, false, false, false] rfl rfl (one_of HT_.out (by kernel_rfl)) (by decide) (fun K hK => ?_)
                  refine goes_ Tryd.func24 (by kernel_rfl) rfl #[.agg #[.int .i64 t294, .int .i64 t295, .string t296], .agg #[.int .i64 t312, .int .i64 t313, .string t314]] (by rfl) rfl rfl (by (try simp only [List.map_toArray, List.map_cons, List.map_nil]); first | done | rfl | (simp only [List.length_drop, List.length_take]; rfl)) ?_
                  with_reducible refine (pannierkeep_Value.calls t294 t295 t296 t312 t313 t314 true _ A22.out).mono ?_
                  rintro e w80 ⟨rfl, hb⟩
                  refine ⟨_, rfl, ?_⟩
                  have n0_ := Aside0.mk (blk_below (g := gb285) (o := .cells #[.int .i64 a0_0, .int .i64 a0_1, .string a0_2] 42 (0, 0)) (zB BK285.out) hb)
                  have n1_ := Aside0.mk (blk_below (g := gb292) (o := .cells #[.int .i64 t289, .int .i64 t290, .string t291] 42 (0, 0)) (zB BK292.out) hb)
                  have n2_ := Aside0.mk (blk_below (g := gb297) (o := .cells #[.int .i64 t294, .int .i64 t295, .string t296] 42 (0, 0)) (zB BK297.out) hb)
                  have n3_ := Aside0.mk (blk_below (g := gb302) (o := .cells #[.int .i64 t299, .int .i64 t300, .string t301] 42 (0, 0)) (zB BK302.out) hb)
                  have n4_ := Aside0.mk (blk_below (g := gb321) (o := .cells #[.int .i64 t303, .bool t304, .string t305, .int .i64 t306, .int .i64 t307, .string t308] 51 (0, 0)) (zB BK321.out) hb)
                  have n5_ := Aside0.mk (blk_below (g := gb322) (o := .cells #[.int .i64 t309, .bool t310, .string t311, .int .i64 t312, .int .i64 t313, .string t314] 51 (0, 0)) (zB BK322.out) hb)
                  have n6_ := Aside0.mk (blk_below (g := gb323) (o := .cells #[.int .i64 t315, .bool t316, .string t317, .int .i64 t318, .int .i64 t319, .string t320] 51 (0, 0)) (zB BK323.out) hb)
                  have n7_ := Aside0.mk (below_step (by repeat first | with_reducible exact HB.out | apply zS | refine below_set ?_ GE285.out | refine below_set ?_ GE292.out | refine below_set ?_ GE297.out | refine below_set ?_ GE302.out | refine below_set ?_ GE321.out | refine below_set ?_ GE322.out | refine below_set ?_ GE323.out | exact HB.out) hb)
                  clear BK285
                  clear BK292
                  clear BK297
                  clear BK302
                  clear BK321
                  clear BK322
                  clear BK323
                  clear HB
                  have BK285 := n0_
                  have BK292 := n1_
                  have BK297 := n2_
                  have BK302 := n3_
                  have BK321 := n4_
                  have BK322 := n5_
                  have BK323 := n6_
                  have HB := n7_
                  clear n0_ n1_ n2_ n3_ n4_ n5_ n6_ n7_
                  (try clear hb)
                  (try clear hb2)
                  (try clear hk)
                  (try clear hi)
                  refine hK.out _ _ ⟨(blk_cell BK285.out 0).trans rfl, (blk_cell BK285.out 1).trans rfl, (blk_cell BK285.out 2).trans rfl, (blk_cell BK321.out 0).trans rfl, (blk_cell BK321.out 1).trans rfl, (blk_cell BK321.out 2).trans rfl, (blk_cell BK321.out 3).trans rfl, (blk_cell BK321.out 4).trans rfl, (blk_cell BK321.out 5).trans rfl, (blk_cell BK292.out 0).trans rfl, (blk_cell BK292.out 1).trans rfl, (blk_cell BK292.out 2).trans rfl, (blk_cell BK322.out 0).trans rfl, (blk_cell BK322.out 1).trans rfl, (blk_cell BK322.out 2).trans rfl, (blk_cell BK322.out 3).trans rfl, (blk_cell BK322.out 4).trans rfl, (blk_cell BK322.out 5).trans rfl, (blk_cell BK297.out 0).trans rfl, (blk_cell BK297.out 1).trans rfl, (blk_cell BK297.out 2).trans rfl, (blk_cell BK323.out 0).trans rfl, (blk_cell BK323.out 1).trans rfl, (blk_cell BK323.out 2).trans rfl, (blk_cell BK323.out 3).trans rfl, (blk_cell BK323.out 4).trans rfl, (blk_cell BK323.out 5).trans rfl, (blk_cell BK302.out 0).trans rfl, (blk_cell BK302.out 1).trans rfl, (blk_cell BK302.out 2).trans rfl⟩ (fun hHeld => ?_)
                  clear hK K
                  refine norm_ (a' := ?_) ?_ ?_
                  rotate_left
                  · show Act.put _ (some 63) _ = _
                    simp only [Act.put, List.setIfInBounds_toArray, List.set_cons_zero, List.set_cons_succ, i64_w, i32_w]
                    rfl
                  refine pure_ (i := 28) (N := some 64) (v := ?_) (a' := ?_) #[true, true, true, true, true, true, true, true, true, true, true, true, true, true, true, true, true, true, true, true, true, true, true, true, true, true, true, true, true, false, false, false, false, false, false, false, false, false, false, false, false, false, false, false, false] rfl rfl (any_of HT_.out (by kernel_rfl)) (fun _ _ _ h => h) (Or.inl ⟨by rfl, ?_⟩) ?_ ?_
                  rotate_left
                  · intro w'
                    go_simp
                    with_reducible rfl
                  rotate_left
                  · simp only [Act.put, List.setIfInBounds_toArray, List.set_cons_zero, List.set_cons_succ, i64_w, i32_w]
                    rfl
                  refine pure_ (i := 29) (N := some 65) (v := ?_) (a' := ?_) #[true, true, true, true, true, true, true, true, true, true, true, true, true, true, true, true, true, true, true, true, true, true, true, true, true, true, true, true, true, true, false, false, false, false, false, false, false, false, false, false, false, false, false, false, false] rfl rfl (any_of HT_.out (by kernel_rfl)) (fun _ _ _ h => h) (Or.inl ⟨by rfl, ?_⟩) ?_ ?_
                  rotate_left
                  · intro w'
                    go_simp
                    with_reducible rfl
                  rotate_left
                  · simp only [Act.put, List.setIfInBounds_toArray, List.set_cons_zero, List.set_cons_succ, i64_w, i32_w]
                    rfl
                  refine pure_ (i := 30) (N := some 66) (v := ?_) (a' := ?_) #[true, true, true, true, true, true, true, true, true, true, true, true, true, true, true, true, true, true, true, true, true, true, true, true, true, true, true, true, true, true, true, false, false, false, false, false, false, false, false, false, false, false, false, false, false] rfl rfl (any_of HT_.out (by kernel_rfl)) (fun _ _ _ h => h) (Or.inl ⟨by rfl, ?_⟩) ?_ ?_
                  rotate_left
                  · intro w'
                    go_simp
                    with_reducible rfl
                  rotate_left
                  · simp only [Act.put, List.setIfInBounds_toArray, List.set_cons_zero, List.set_cons_succ, i64_w, i32_w]
                    rfl
                  refine pure_ (i := 31) (N := some 67) (v := ?_) (a' := ?_) #[true, true, true, true, true, true, true, true, true, true, true, true, true, true, true, true, true, true, true, true, true, true, true, true, true, true, true, true, true, true, true, true, false, false, false, false, false, false, false, false, false, false, false, false, false] rfl rfl (any_of HT_.out (by kernel_rfl)) (fun _ _ _ h => h) (Or.inl ⟨by rfl, ?_⟩) ?_ ?_
                  rotate_left
                  · intro w'
                    go_simp
                    with_reducible rfl
                  rotate_left
                  · simp only [Act.put, List.setIfInBounds_toArray, List.set_cons_zero, List.set_cons_succ, i64_w, i32_w]
                    rfl
                  refine take_ (i := 32) (N := some 68) (v := ?_) (a' := ?_) #[true, true, true, true, true, true, true, true, true, true, true, true, true, true, true, true, true, true, true, true, true, true, true, true, true, true, true, true, true, true, true, true, true, false, false, false, false, false, false, false, false, false, false, false, false] rfl rfl (take_ofW HT_.out HW_.out (by kernel_rfl)) (fun _ _ _ h => h) (Or.inl ⟨by rfl, ?_⟩) hHeld ?_ ?_
                  rotate_left
                  · rintro w' ⟨s0, s1, s2, s3, s4, s5, s6, s7, s8, s9, s10, s11, s12, s13, s14, s15, s16, s17, s18, s19, s20, s21, s22, s23, s24, s25, s26, s27, s28, s29⟩
                    go_simp
                    with_reducible rfl
                  rotate_left
                  · simp only [Act.put, List.setIfInBounds_toArray, List.set_cons_zero, List.set_cons_succ, i64_w, i32_w]
                    rfl
                  refine pure_ (i := 33) (N := some 69) (v := ?_) (a' := ?_) #[true, true, true, true, true, true, true, true, true, true, true, true, true, true, true, true, true, true, true, true, true, true, true, true, true, true, true, true, true, true, true, true, true, true, false, false, false, false, false, false, false, false, false, false, false] rfl rfl (any_of HT_.out (by kernel_rfl)) (fun _ _ _ h => h) (Or.inl ⟨by rfl, ?_⟩) ?_ ?_
                  rotate_left
                  · intro w'
                    go_simp
                    with_reducible rfl
                  rotate_left
                  · simp only [Act.put, List.setIfInBounds_toArray, List.set_cons_zero, List.set_cons_succ, i64_w, i32_w]
                    rfl
                  refine pure_ (i := 34) (N := some 70) (v := ?_) (a' := ?_) #[true, true, true, true, true, true, true, true, true, true, true, true, true, true, true, true, true, true, true, true, true, true, true, true, true, true, true, true, true, true, true, true, true, true, true, false, false, false, false, false, false, false, false, false, false] rfl rfl (any_of HT_.out (by kernel_rfl)) (fun _ _ _ h => h) (Or.inl ⟨by rfl, ?_⟩) ?_ ?_
                  rotate_left
                  · intro w'
                    go_simp
                    with_reducible rfl
                  rotate_left
                  · simp only [Act.put, List.setIfInBounds_toArray, List.set_cons_zero, List.set_cons_succ, i64_w, i32_w]
                    rfl
                  refine pure_ (i := 35) (N := some 71) (v := ?_) (a' := ?_) #[true, true, true, true, true, true, true, true, true, true, true, true, true, true, true, true, true, true, true, true, true, true, true, true, true, true, true, true, true, true, true, true, true, true, true, true, false, false, false, false, false, false, false, false, false] rfl rfl (any_of HT_.out (by kernel_rfl)) (fun _ _ _ h => h) (Or.inl ⟨by rfl, ?_⟩) ?_ ?_
                  rotate_left
                  · intro w'
                    go_simp
                    with_reducible rfl
                  rotate_left
                  · simp only [Act.put, List.setIfInBounds_toArray, List.set_cons_zero, List.set_cons_succ, i64_w, i32_w]
                    rfl
                  refine pure_ (i := 37) (N := some 73) (v := ?_) (a' := ?_) #[true, true, true, true, true, true, true, true, true, true, true, true, true, true, true, true, true, true, true, true, true, true, true, true, true, true, true, true, true, true, true, true, true, true, true, true, false, true, false, false, false, false, false, false, false] rfl rfl (any_of HT_.out (by kernel_rfl)) (fun _ _ _ h => h) (Or.inl ⟨by rfl, ?_⟩) ?_ ?_
                  rotate_left
                  · intro w'
                    go_simp
                    with_reducible rfl
                  rotate_left
                  · simp only [Act.put, List.setIfInBounds_toArray, List.set_cons_zero, List.set_cons_succ, i64_w, i32_w]
                    rfl
                  refine take_ (i := 36) (N := some 72) (v := ?_) (a' := ?_) #[true, true, true, true, true, true, true, true, true, true, true, true, true, true, true, true, true, true, true, true, true, true, true, true, true, true, true, true, true, true, true, true, true, true, true, true, true, true, false, false, false, false, false, false, false] rfl rfl (take_ofW HT_.out HW_.out (by kernel_rfl)) (fun _ _ _ h => h) (Or.inl ⟨by rfl, ?_⟩) hHeld ?_ ?_
                  rotate_left
                  · rintro w' ⟨s0, s1, s2, s3, s4, s5, s6, s7, s8, s9, s10, s11, s12, s13, s14, s15, s16, s17, s18, s19, s20, s21, s22, s23, s24, s25, s26, s27, s28, s29⟩
                    go_simp
                    with_reducible rfl
                  rotate_left
                  · simp only [Act.put, List.setIfInBounds_toArray, List.set_cons_zero, List.set_cons_succ, i64_w, i32_w]
                    rfl
                  refine take_ (i := 38) (N := some 74) (v := ?_) (a' := ?_) #[true, true, true, true, true, true, true, true, true, true, true, true, true, true, true, true, true, true, true, true, true, true, true, true, true, true, true, true, true, true, true, true, true, true, true, true, true, true, true, false, false, false, false, false, false] rfl rfl (take_ofW HT_.out HW_.out (by kernel_rfl)) (fun _ _ _ h => h) (Or.inl ⟨by rfl, ?_⟩) hHeld ?_ ?_
                  rotate_left
                  · rintro w' ⟨s0, s1, s2, s3, s4, s5, s6, s7, s8, s9, s10, s11, s12, s13, s14, s15, s16, s17, s18, s19, s20, s21, s22, s23, s24, s25, s26, s27, s28, s29⟩
                    go_simp
                    with_reducible rfl
                  rotate_left
                  · simp only [Act.put, List.setIfInBounds_toArray, List.set_cons_zero, List.set_cons_succ, i64_w, i32_w]
                    rfl
                  refine one_ (i := 39) (N := some 75) #[true, true, true, true, true, true, true, true, true, true, true, true, true, true, true, true, true, true, true, true, true, true, true, true, true, true, true, true, true, true, true, true, true, true, true, true, true, true, true, true, false, false, false, false, false] rfl rfl (one_of HT_.out (by kernel_rfl)) (by decide) (fun K hK => ?_)
                  refine goes_ Tryd.func24 (by kernel_rfl) rfl #[.agg #[.int .i64 t299, .int .i64 t300, .string t301], .agg #[.int .i64 t318, .int .i64 t319, .string t320]] (by rfl) rfl rfl (by (try simp only [List.map_toArray, List.map_cons, List.map_nil]); first | done | rfl | (simp only [List.length_drop, List.length_take]; rfl)) ?_
                  with_reducible refine (pannierkeep_Value.calls t299 t300 t301 t318 t319 t320 true _ A25.out).mono ?_
                  rintro e w81 ⟨rfl, hb⟩
                  refine ⟨_, rfl, ?_⟩
                  have n0_ := Aside0.mk (blk_below (g := gb285) (o := .cells #[.int .i64 a0_0, .int .i64 a0_1, .string a0_2] 42 (0, 0)) (zB BK285.out) hb)
                  have n1_ := Aside0.mk (blk_below (g := gb292) (o := .cells #[.int .i64 t289, .int .i64 t290, .string t291] 42 (0, 0)) (zB BK292.out) hb)
                  have n2_ := Aside0.mk (blk_below (g := gb297) (o := .cells #[.int .i64 t294, .int .i64 t295, .string t296] 42 (0, 0)) (zB BK297.out) hb)
                  have n3_ := Aside0.mk (blk_below (g := gb302) (o := .cells #[.int .i64 t299, .int .i64 t300, .string t301] 42 (0, 0)) (zB BK302.out) hb)
                  have n4_ := Aside0.mk (blk_below (g := gb321) (o := .cells #[.int .i64 t303, .bool t304, .string t305, .int .i64 t306, .int .i64 t307, .string t308] 51 (0, 0)) (zB BK321.out) hb)
                  have n5_ := Aside0.mk (blk_below (g := gb322) (o := .cells #[.int .i64 t309, .bool t310, .string t311, .int .i64 t312, .int .i64 t313, .string t314] 51 (0, 0)) (zB BK322.out) hb)
                  have n6_ := Aside0.mk (blk_below (g := gb323) (o := .cells #[.int .i64 t315, .bool t316, .string t317, .int .i64 t318, .int .i64 t319, .string t320] 51 (0, 0)) (zB BK323.out) hb)
                  have n7_ := Aside0.mk (below_step (by repeat first | with_reducible exact HB.out | apply zS | refine below_set ?_ GE285.out | refine below_set ?_ GE292.out | refine below_set ?_ GE297.out | refine below_set ?_ GE302.out | refine below_set ?_ GE321.out | refine below_set ?_ GE322.out | refine below_set ?_ GE323.out | exact HB.out) hb)
                  clear BK285
                  clear BK292
                  clear BK297
                  clear BK302
                  clear BK321
                  clear BK322
                  clear BK323
                  clear HB
                  have BK285 := n0_
                  have BK292 := n1_
                  have BK297 := n2_
                  have BK302 := n3_
                  have BK321 := n4_
                  have BK322 := n5_
                  have BK323 := n6_
                  have HB := n7_
                  clear n0_ n1_ n2_ n3_ n4_ n5_ n6_ n7_
                  (try clear hb)
                  (try clear hb2)
                  (try clear hk)
                  (try clear hi)
                  refine hK.out _ _ ⟨(blk_cell BK285.out 0).trans rfl, (blk_cell BK285.out 1).trans rfl, (blk_cell BK285.out 2).trans rfl, (blk_cell BK321.out 0).trans rfl, (blk_cell BK321.out 1).trans rfl, (blk_cell BK321.out 2).trans rfl, (blk_cell BK321.out 3).trans rfl, (blk_cell BK321.out 4).trans rfl, (blk_cell BK321.out 5).trans rfl, (blk_cell BK292.out 0).trans rfl, (blk_cell BK292.out 1).trans rfl, (blk_cell BK292.out 2).trans rfl, (blk_cell BK322.out 0).trans rfl, (blk_cell BK322.out 1).trans rfl, (blk_cell BK322.out 2).trans rfl, (blk_cell BK322.out 3).trans rfl, (blk_cell BK322.out 4).trans rfl, (blk_cell BK322.out 5).trans rfl, (blk_cell BK297.out 0).trans rfl, (blk_cell BK297.out 1).trans rfl, (blk_cell BK297.out 2).trans rfl, (blk_cell BK323.out 0).trans rfl, (blk_cell BK323.out 1).trans rfl, (blk_cell BK323.out 2).trans rfl, (blk_cell BK323.out 3).trans rfl, (blk_cell BK323.out 4).trans rfl, (blk_cell BK323.out 5).trans rfl, (blk_cell BK302.out 0).trans rfl, (blk_cell BK302.out 1).trans rfl, (blk_cell BK302.out 2).trans rfl⟩ (fun hHeld => ?_)
                  clear hK K
                  refine norm_ (a' := ?_) ?_ ?_
                  rotate_left
                  · show Act.put _ (some 75) _ = _
                    simp only [Act.put, List.setIfInBounds_toArray, List.set_cons_zero, List.set_cons_succ, i64_w, i32_w]
                    rfl
                  refine pure_ (i := 40) (N := some 76) (v := ?_) (a' := ?_) #[true, true, true, true, true, true, true, true, true, true, true, true, true, true, true, true, true, true, true, true, true, true, true, true, true, true, true, true, true, true, true, true, true, true, true, true, true, true, true, true, true, false, false, false, false] rfl rfl (any_of HT_.out (by kernel_rfl)) (fun _ _ _ h => h) (Or.inl ⟨by rfl, ?_⟩) ?_ ?_
                  rotate_left
                  · intro w'
                    go_simp
                    with_reducible rfl
                  rotate_left
                  · simp only [Act.put, List.setIfInBounds_toArray, List.set_cons_zero, List.set_cons_succ, i64_w, i32_w]
                    rfl
                  refine pure_ (i := 41) (N := some 77) (v := ?_) (a' := ?_) #[true, true, true, true, true, true, true, true, true, true, true, true, true, true, true, true, true, true, true, true, true, true, true, true, true, true, true, true, true, true, true, true, true, true, true, true, true, true, true, true, true, true, false, false, false] rfl rfl (any_of HT_.out (by kernel_rfl)) (fun _ _ _ h => h) (Or.inl ⟨by rfl, ?_⟩) ?_ ?_
                  rotate_left
                  · intro w'
                    go_simp
                    with_reducible rfl
                  rotate_left
                  · simp only [Act.put, List.setIfInBounds_toArray, List.set_cons_zero, List.set_cons_succ, i64_w, i32_w]
                    rfl
                  refine one_ (i := 42) (N := some 78) #[true, true, true, true, true, true, true, true, true, true, true, true, true, true, true, true, true, true, true, true, true, true, true, true, true, true, true, true, true, true, true, true, true, true, true, true, true, true, true, true, true, true, true, false, false] rfl rfl (one_of HT_.out (by kernel_rfl)) (by decide) (fun K hK => ?_)
                  refine goes_ Tryd.func15 (by kernel_rfl) rfl #[] (by rfl) rfl rfl (by (try simp only [List.map_toArray, List.map_cons, List.map_nil]); first | done | rfl | (simp only [List.length_drop, List.length_take]; rfl)) ?_
                  with_reducible refine (pannierlaw03_wakes.calls k  t329 _ ?side1 A27.out).mono ?_
                  (case side1 => exact gl_2_2 (by repeat first | with_reducible exact HB.out | apply zS | refine below_set ?_ GE285.out | refine below_set ?_ GE292.out | refine below_set ?_ GE297.out | refine below_set ?_ GE302.out | refine below_set ?_ GE321.out | refine below_set ?_ GE322.out | refine below_set ?_ GE323.out | exact HB.out) hG)
                  rintro e w82 ⟨rfl, hb⟩
                  refine ⟨_, rfl, ?_⟩
                  have n0_ := Aside0.mk (blk_below (g := gb285) (o := .cells #[.int .i64 a0_0, .int .i64 a0_1, .string a0_2] 42 (0, 0)) (zB BK285.out) hb)
                  have n1_ := Aside0.mk (blk_below (g := gb292) (o := .cells #[.int .i64 t289, .int .i64 t290, .string t291] 42 (0, 0)) (zB BK292.out) hb)
                  have n2_ := Aside0.mk (blk_below (g := gb297) (o := .cells #[.int .i64 t294, .int .i64 t295, .string t296] 42 (0, 0)) (zB BK297.out) hb)
                  have n3_ := Aside0.mk (blk_below (g := gb302) (o := .cells #[.int .i64 t299, .int .i64 t300, .string t301] 42 (0, 0)) (zB BK302.out) hb)
                  have n4_ := Aside0.mk (blk_below (g := gb321) (o := .cells #[.int .i64 t303, .bool t304, .string t305, .int .i64 t306, .int .i64 t307, .string t308] 51 (0, 0)) (zB BK321.out) hb)
                  have n5_ := Aside0.mk (blk_below (g := gb322) (o := .cells #[.int .i64 t309, .bool t310, .string t311, .int .i64 t312, .int .i64 t313, .string t314] 51 (0, 0)) (zB BK322.out) hb)
                  have n6_ := Aside0.mk (blk_below (g := gb323) (o := .cells #[.int .i64 t315, .bool t316, .string t317, .int .i64 t318, .int .i64 t319, .string t320] 51 (0, 0)) (zB BK323.out) hb)
                  have n7_ := Aside0.mk (below_step (by repeat first | with_reducible exact HB.out | apply zS | refine below_set ?_ GE285.out | refine below_set ?_ GE292.out | refine below_set ?_ GE297.out | refine below_set ?_ GE302.out | refine below_set ?_ GE321.out | refine below_set ?_ GE322.out | refine below_set ?_ GE323.out | exact HB.out) hb)
                  clear BK285
                  clear BK292
                  clear BK297
                  clear BK302
                  clear BK321
                  clear BK322
                  clear BK323
                  clear HB
                  have BK285 := n0_
                  have BK292 := n1_
                  have BK297 := n2_
                  have BK302 := n3_
                  have BK321 := n4_
                  have BK322 := n5_
                  have BK323 := n6_
                  have HB := n7_
                  clear n0_ n1_ n2_ n3_ n4_ n5_ n6_ n7_
                  (try clear hb)
                  (try clear hb2)
                  (try clear hk)
                  (try clear hi)
                  refine hK.out _ _ ⟨(blk_cell BK285.out 0).trans rfl, (blk_cell BK285.out 1).trans rfl, (blk_cell BK285.out 2).trans rfl, (blk_cell BK321.out 0).trans rfl, (blk_cell BK321.out 1).trans rfl, (blk_cell BK321.out 2).trans rfl, (blk_cell BK321.out 3).trans rfl, (blk_cell BK321.out 4).trans rfl, (blk_cell BK321.out 5).trans rfl, (blk_cell BK292.out 0).trans rfl, (blk_cell BK292.out 1).trans rfl, (blk_cell BK292.out 2).trans rfl, (blk_cell BK322.out 0).trans rfl, (blk_cell BK322.out 1).trans rfl, (blk_cell BK322.out 2).trans rfl, (blk_cell BK322.out 3).trans rfl, (blk_cell BK322.out 4).trans rfl, (blk_cell BK322.out 5).trans rfl, (blk_cell BK297.out 0).trans rfl, (blk_cell BK297.out 1).trans rfl, (blk_cell BK297.out 2).trans rfl, (blk_cell BK323.out 0).trans rfl, (blk_cell BK323.out 1).trans rfl, (blk_cell BK323.out 2).trans rfl, (blk_cell BK323.out 3).trans rfl, (blk_cell BK323.out 4).trans rfl, (blk_cell BK323.out 5).trans rfl, (blk_cell BK302.out 0).trans rfl, (blk_cell BK302.out 1).trans rfl, (blk_cell BK302.out 2).trans rfl⟩ (fun hHeld => ?_)
                  clear hK K
                  refine norm_ (a' := ?_) ?_ ?_
                  rotate_left
                  · show Act.put _ (some 78) _ = _
                    simp only [Act.put, List.setIfInBounds_toArray, List.set_cons_zero, List.set_cons_succ, i64_w, i32_w]
                    rfl
                  refine pure_ (i := 43) (N := some 79) (v := ?_) (a' := ?_) #[true, true, true, true, true, true, true, true, true, true, true, true, true, true, true, true, true, true, true, true, true, true, true, true, true, true, true, true, true, true, true, true, true, true, true, true, true, true, true, true, true, true, true, true, false] rfl rfl (any_of HT_.out (by kernel_rfl)) (fun _ _ _ h => h) (Or.inl ⟨by rfl, ?_⟩) ?_ ?_
                  rotate_left
                  · intro w'
                    go_simp
                    with_reducible rfl
                  rotate_left
                  · simp only [Act.put, List.setIfInBounds_toArray, List.set_cons_zero, List.set_cons_succ, i64_w, i32_w]
                    rfl
                  refine pure_ (i := 44) (N := some 2) (v := ?_) (a' := ?_) #[true, true, true, true, true, true, true, true, true, true, true, true, true, true, true, true, true, true, true, true, true, true, true, true, true, true, true, true, true, true, true, true, true, true, true, true, true, true, true, true, true, true, true, true, true] rfl rfl (any_of HT_.out (by kernel_rfl)) (fun _ _ _ h => h) (Or.inl ⟨by rfl, ?_⟩) ?_ ?_
                  rotate_left
                  · intro w'
                    go_simp
                    with_reducible rfl
                  rotate_left
                  · simp only [Act.put, List.setIfInBounds_toArray, List.set_cons_zero, List.set_cons_succ, i64_w, i32_w]
                    rfl
                  refine done_ (done_of HT_.out (by kernel_rfl)) ?_
                  try go_wp2
                  go_ret
                  exact ⟨by first | rfl | (simp [errW_none, errW_some] <;> rfl) | (simp [*, errW_none, errW_some] <;> rfl), by repeat first | with_reducible exact HB.out | apply zS | refine below_set ?_ GE285.out | refine below_set ?_ GE292.out | refine below_set ?_ GE297.out | refine below_set ?_ GE302.out | refine below_set ?_ GE321.out | refine below_set ?_ GE322.out | refine below_set ?_ GE323.out | exact HB.out⟩
                · replace c26 := Bool.eq_false_iff.mpr c26
                  subst c26
                  have H1 : (none) = some r := by rw [if_neg (show ¬ (false = true) by decide)] at H; exact H
                  clear H
                  have H := H1
                  clear H1
                  exact absurd H (by simp)
              · rw [if_neg c24] at H
                have c24b0 : (t298.toList == t317.toList) = false := beq_eq_false_iff_ne.mpr c24
                have c24b1 : (t298.toList != t317.toList) = true := bne_iff_ne.mpr c24
                exact absurd H (by simp)
            · replace c23 := Bool.eq_false_iff.mpr c23
              subst c23
              have H1 : (none) = some r := by rw [if_neg (show ¬ (false = true) by decide)] at H; exact H
              clear H
              have H := H1
              clear H1
              exact absurd H (by simp)
          · rw [if_neg c21] at H
            have c21b0 : (t293 == t310) = false := by simpa using c21
            (try (have c21b1 : decide (t293 = t310) = false := by simpa using c21))
            (try (have c21b2 : (t293 == t310) = false := by simpa using c21))
            (try (have c21b3 : ¬ (t293 = t310) := by simpa using c21))
            clear c21
            exact absurd H (by simp)
        · replace c20 := Bool.eq_false_iff.mpr c20
          subst c20
          have H1 : (none) = some r := by rw [if_neg (show ¬ (false = true) by decide)] at H; exact H
          clear H
          have H := H1
          clear H1
          exact absurd H (by simp)
      · rw [if_neg c18] at H
        have c18b0 : (t288 == t303) = false := beq_eq_false_iff_ne.mpr c18
        have c18b1 : (t288 != t303) = true := bne_iff_ne.mpr c18
        exact absurd H (by simp)
    · rw [if_neg c17] at H
      have c17b0 : (t324.toList == t325.toList) = false := beq_eq_false_iff_ne.mpr c17
      have c17b1 : (t324.toList != t325.toList) = true := bne_iff_ne.mpr c17
      exact absurd H (by simp)
end Go.Proofs.YtmhjnkeflbklpaaDoor.P


namespace Go.Proofs.YtmhjnkeflbklpaaDoor.P
open Go.RowKit Go.Proofs.YtmhjnkeflbklpaaDoorW.PrintWords Go.Proofs.YtmhjnkeflbklpaaDoorW.PrintLast Go.Proofs.YtmhjnkeflbklpaaDoorW.PrintMore
open M (fit I64 u64w)
set_option linter.unusedVariables false
set_option linter.unusedSimpArgs false
theorem whole_eq (a : Int) (ha : I64 a) : pannierref01_whole.f a = some (a.natAbs : Int) := by
  unfold pannierref01_whole.f; unfold I64 at ha
  split
  · rw [u64w, u64w]; unfold wrap64; congr 1; omega
  · rw [u64w]; congr 1; omega
theorem rsigned_eq (k : Nat) (u : Int) (b : Bool) (h0 : 0 ≤ u) (h1 : u < 18446744073709551616) : pannierref01_signed.f (k + 1) u b = some (fit (if b = true then -u else u)) := by
  unfold pannierref01_signed.f
  cases b
  · simp only [pannierref01_signed.j0, Bool.false_eq_true, if_false]
    by_cases h : u ≥ 9223372036854775808
    · rw [if_pos h, M.fit_out (by omega)]
    · rw [if_neg h, M.fit_in (by omega), M.wrap64_id (by unfold I64; omega)]
  · simp only [pannierref01_signed.j0, if_true, beq_iff_eq]
    by_cases h : u = 9223372036854775808
    · subst h; rfl
    · rw [if_neg h]
      by_cases h2 : u ≥ 9223372036854775808
      · rw [if_pos h2, M.fit_out (by omega)]
      · rw [if_neg h2, M.fit_in (by omega)]; congr 2; unfold wrap64; omega
end Go.Proofs.YtmhjnkeflbklpaaDoor.P

namespace Go.Proofs.YtmhjnkeflbklpaaDoor.P
open Go.RowKit Go.Proofs.YtmhjnkeflbklpaaDoorW.PrintWords Go.Proofs.YtmhjnkeflbklpaaDoorW.PrintLast Go.Proofs.YtmhjnkeflbklpaaDoorW.PrintMore
open M (fit I64 u64w dig itoaF)
set_option linter.unusedVariables false
set_option linter.unusedSimpArgs false
theorem digit_piece (d : Nat) (h : d < 10) : (⟨#[48, 49, 50, 51, 52, 53, 54, 55, 56, 57]⟩ : ByteArray).extract d (d + 1) = bs [UInt8.ofNat (48 + d)] := by
  have : ∀ d : Fin 10, ((⟨#[48, 49, 50, 51, 52, 53, 54, 55, 56, 57]⟩ : ByteArray).extract d.val (d.val + 1)).data = #[UInt8.ofNat (48 + d.val)] := by decide +kernel
  exact ByteArray.ext (this ⟨d, h⟩)
theorem digits_loop : ∀ (n u i k : Nat) (l : List UInt8), 0 < n → u < 10 ^ n → i + n ≤ 20 → l.length + n ≤ 1000 → n < k → u < 18446744073709551616 →
    pannierref01_digits.l0 k (u : Int) (bs l) (i : Int) = some (bs (dig n u ++ l)) := by
  intro n
  induction n with
  | zero => intro u i k l h; omega
  | succ n ih =>
    intro u i k l _ hu hi hl hk h64
    obtain ⟨k, rfl⟩ : ∃ m, k = m + 1 := ⟨k - 1, by omega⟩
    have hw : wrap64 ((i : Int) + 1) = ((i + 1 : Nat) : Int) := by rw [M.wrap64_id (by unfold I64; omega)]; omega
    have e1 : Int.tmod (u : Int) 10 = ((u % 10 : Nat) : Int) := by rw [show (10 : Int) = ((10 : Nat) : Int) from rfl, ← Int.ofNat_tmod]
    have e2 : Int.tdiv (u : Int) 10 = ((u / 10 : Nat) : Int) := by rw [show (10 : Int) = ((10 : Nat) : Int) from rfl, ← Int.ofNat_tdiv]
    have e3 : IntKind.u64.wrap (((u % 10 : Nat) : Int) + 1) = ((u % 10 + 1 : Nat) : Int) := by rw [u64w]; omega
    have e4 : IntKind.u64.wrap ((u / 10 : Nat) : Int) = ((u / 10 : Nat) : Int) := by rw [u64w]; omega
    have e5 := digit_piece (u % 10) (Nat.mod_lt _ (by omega))
    simp only [pannierref01_digits.l0]
    rw [e1, e2, e3, e4, hw, Int.toNat_natCast, Int.toNat_natCast, e5, bs_append]
    rw [if_pos (by omega), if_pos (by omega), if_pos (by omega), if_pos (by omega), if_pos (by rw [bs_size, bs_size]; simp; omega)]
    by_cases h0 : u < 10
    · rw [if_pos (by omega), dig, if_pos h0, show u % 10 = u by omega]
    · rw [if_neg (by omega), dig, if_neg h0]
      have hn : 0 < n := by
        rcases Nat.eq_zero_or_pos n with rfl | h
        · simp at hu; omega
        · exact h
      rw [ih (u / 10) (i + 1) k _ hn (by rw [Nat.pow_succ] at hu; omega) (by omega) (by simp; omega) (by omega) (by omega)]
      simp
theorem digits_eq (k u : Nat) (hk : 21 ≤ k) (hu : u < 18446744073709551616) : pannierref01_digits.f k (u : Int) = some (bs (dig 20 u)) := by
  unfold pannierref01_digits.f
  have := digits_loop 20 u 0 k [] (by omega) (by omega) (by omega) (by simp) (by omega) hu
  rw [List.append_nil] at this
  exact this
theorem rdec_eq (k : Nat) (hk : 21 ≤ k) (a : Int) (ha : I64 a) : pannierref01_Dec.f k a = some (bs (itoaF a)) := by
  unfold pannierref01_Dec.f itoaF
  have hl := M.dig_length 20 a.natAbs
  unfold I64 at ha
  by_cases h : a < 0
  · rw [if_pos h, whole_eq a ha, Option.bind_some, digits_eq k _ hk (by omega), Option.bind_some, if_pos (by rw [bs_size]; omega), if_pos h]
    rw [show (⟨#[45]⟩ : ByteArray) = bs [45] from rfl, bs_append]; rfl
  · rw [if_neg h, whole_eq a ha, Option.bind_some, digits_eq k _ hk (by omega), Option.bind_some, if_neg h, show a.natAbs = a.toNat by omega]
theorem bt_list (s : ByteArray) (i : Nat) (h : i < s.data.toList.length) : bt s (i : Int) = ((s.data.toList[i]).toNat : Int) := by
  unfold bt
  rw [dif_pos (by simpa using h)]
  rfl
theorem itoa_short (a : Int) : (itoaF a).length ≤ 21 := by
  unfold itoaF
  have h1 := M.dig_length 20 a.natAbs
  have h2 := M.dig_length 20 a.toNat
  split <;> simp <;> omega
theorem l0_at (k : Nat) (s : ByteArray) (f u : Int) (i : Nat) (h : i < s.data.toList.length) (c : UInt8) (hc : s.data.toList[i] = c) :
    pannierref01_Parse.l0 (k + 1) s f u (i : Int) = if (c.toNat : Int) < 48 then some (0, false) else if (c.toNat : Int) > 57 then some (0, false) else if u > 922337203685477580 then some (0, false) else
      pannierref01_Parse.l0 k s f (IntKind.u64.wrap ((IntKind.u64.wrap (u * 10)) + (((c.toNat : Int) - 48) % 256))) (wrap64 ((i : Int) + 1)) := by
  have hs : s.data.toList.length = s.size := by simp
  simp only [pannierref01_Parse.l0]
  rw [if_pos (by omega), if_pos (by omega), bt_list s i h, hc]
theorem parse_end (k : Nat) (hk : 25 ≤ k) (s : ByteArray) (neg : Bool) (v : Int) (u : Int) (hv : I64 v) (h0 : 0 ≤ u) (h1 : u < 18446744073709551616) (hu : v = if neg = true then -u else u) (hs : itoaF v = s.data.toList) :
    pannierref01_Parse.l0 k s (if neg = true then 1 else 0) u (s.size : Int) = some (v, true) := by
  obtain ⟨k, rfl⟩ : ∃ m, k = m + 2 := ⟨k - 2, by omega⟩
  simp only [pannierref01_Parse.l0]
  rw [if_neg (by omega), show ((if neg = true then (1 : Int) else 0) == 1) = neg by cases neg <;> rfl, rsigned_eq _ _ _ h0 h1, ← hu, M.fit_in hv, Option.bind_some, if_pos rfl, rdec_eq _ (by omega) v hv, Option.bind_some, if_pos]
  rw [bs_toList, ByteArray.toList_eq, hs]
theorem parse_run (s : ByteArray) (neg : Bool) (v : Int) (hv : I64 v) (hs : itoaF v = s.data.toList) :
    ∀ (r : List UInt8) (i : Nat) (u k : Nat), s.data.toList.drop i = r → i + r.length = s.size → (∀ c ∈ r, 48 ≤ c.toNat ∧ c.toNat ≤ 57) → M.val u r ≤ 9223372036854775808 →
      v = (if neg = true then -((M.val u r : Nat) : Int) else ((M.val u r : Nat) : Int)) → r.length + 26 ≤ k →
      pannierref01_Parse.l0 k s (if neg = true then 1 else 0) (u : Int) (i : Int) = some (v, true)
  | [], i, u, k, hd, hi, _, hb, hvv, hk => by
    have e : i = s.size := by simpa using hi
    rw [e]
    have hb' : u ≤ 9223372036854775808 := hb
    have hv2 : v = if neg = true then -(u : Int) else (u : Int) := hvv
    have hk' : 25 ≤ k := by simp at hk; omega
    clear hb hvv hk hi hd
    exact parse_end k hk' s neg v u hv (by omega) (by omega) hv2 hs
  | c :: r, i, u, k, hd, hi, hdig, hb, hvv, hk => by
    obtain ⟨k, rfl⟩ : ∃ m, k = m + 1 := ⟨k - 1, by simp at hk; omega⟩
    have hlen : i < s.data.toList.length := by simp at hi ⊢; omega
    have hc : s.data.toList[i] = c := by
      have h1 : (s.data.toList.drop i)[0]? = some c := by rw [hd]; rfl
      rw [List.getElem?_drop, Nat.add_zero] at h1
      exact (List.getElem?_eq_some_iff.mp h1).2
    have hg := M.val_ge r (u * 10 + (c.toNat - 48))
    have hcd := hdig c (by simp)
    have hb' : M.val (u * 10 + (c.toNat - 48)) r ≤ 9223372036854775808 := hb
    have hw : wrap64 ((i : Int) + 1) = ((i + 1 : Nat) : Int) := by
      have : s.data.toList.length = (itoaF v).length := by rw [hs]
      have := itoa_short v
      rw [M.wrap64_id (by unfold I64; omega)]; omega
    rw [l0_at k s _ _ i hlen c hc, if_neg (by omega), if_neg (by omega), if_neg (by omega), hw, u64w, u64w]
    rw [show ((u : Int) * 10 % 18446744073709551616 + ((c.toNat : Int) - 48) % 256) % 18446744073709551616 = ((u * 10 + (c.toNat - 48) : Nat) : Int) by omega]
    exact parse_run s neg v hv hs r (i + 1) _ k (by rw [← List.drop_drop, hd]; rfl) (by simp at hi; omega) (fun x hx => hdig x (by simp [hx])) hb' hvv (by simp at hk; omega)
theorem rparse_itoa (k : Nat) (hk : 60 ≤ k) (v : Int) (hv : I64 v) (s : ByteArray) (hs : itoaF v = s.data.toList) : pannierref01_Parse.f k s = some (v, true) := by
  have hshort := itoa_short v
  have hlen : s.data.toList.length = s.size := by simp
  have hsz : (itoaF v).length = s.size := by rw [hs, hlen]
  have hpos : 0 < (itoaF v).length := by
    unfold itoaF; split
    · simp
    · have := M.dig_ne 20 v.toNat (by omega); exact List.length_pos_iff.mpr this
  obtain ⟨k, rfl⟩ : ∃ m, k = m + 3 := ⟨k - 3, by omega⟩
  unfold pannierref01_Parse.f
  rw [if_pos (by omega), if_pos (by omega)]
  have hb0 : bt s 0 = ((s.data.toList[0]'(by omega)).toNat : Int) := bt_list s 0 (by omega)
  have huv : I64 v := hv
  unfold I64 at hv
  by_cases h : v < 0
  · have he : itoaF v = 45 :: dig 20 v.natAbs := by unfold itoaF; rw [if_pos h]
    have h45 : s.data.toList[0]'(by omega) = 45 := by simp [← hs, he]
    rw [hb0, h45]
    have hdl : (dig 20 v.natAbs).length + 1 = s.size := by rw [← hsz, he]; simp
    have hdn := M.dig_ne 20 v.natAbs (by omega)
    have hdp : 0 < (dig 20 v.natAbs).length := List.length_pos_iff.mpr hdn
    have hd19 : s.size ≤ 20 := by
      have : (dig 20 v.natAbs) = dig 19 v.natAbs := by rw [M.dig_eq 20 _ (by omega) (by omega), M.dig_eq 19 _ (by omega) (by omega)]
      have := M.dig_length 19 v.natAbs
      rw [‹dig 20 v.natAbs = dig 19 v.natAbs›] at hdl
      omega
    have hval := M.val_dig 20 v.natAbs (by omega)
    simp only [pannierref01_Parse.j0, pannierref01_Parse.j1, pannierref01_Parse.j2]
    rw [if_pos (by decide), if_neg (by omega), if_neg (by simp; omega)]
    exact parse_run s true v huv hs (dig 20 v.natAbs) 1 0 k (by rw [← hs, he]; rfl) (by omega) (M.dig_digits _ _) (by rw [hval]; omega) (by rw [hval]; simp; omega) (by omega)
  · have he : itoaF v = dig 20 v.toNat := by unfold itoaF; rw [if_neg h]
    have hd19 : (dig 20 v.toNat).length ≤ 20 := M.dig_length 20 _
    have hval := M.val_dig 20 v.toNat (by omega)
    have hne : ¬ (bt s 0 == 45) = true := by
      rw [hb0]
      have : 48 ≤ (s.data.toList[0]'(by omega)).toNat := (M.dig_digits 20 v.toNat _ (by rw [← he, hs]; exact List.getElem_mem _)).1
      rw [beq_iff_eq]; omega
    have hne' : (bt s 0 == 45) = false := by simpa using hne
    rw [hne']
    simp only [pannierref01_Parse.j0, pannierref01_Parse.j1, pannierref01_Parse.j2]
    rw [if_neg (by simp), if_neg (by omega), if_neg (by rw [he] at hsz; simp; omega)]
    exact parse_run s false v huv hs (dig 20 v.toNat) 0 0 k (by rw [← hs, he]; rfl) (by rw [← hsz, he]; omega) (M.dig_digits _ _) (by rw [hval]; omega) (by rw [hval]; simp; omega) (by omega)
theorem rparse_tells (k : Nat) (s : ByteArray) (hs : s.size ≤ 2000) (hk : 2100 ≤ k) : ∃ x : Int, ∃ ok : Bool, pannierref01_Parse.f k s = some (x, ok) ∧ ((x = 0 ∧ ok = false) ∨ (ok = true ∧ I64 x ∧ itoaF x = s.data.toList)) := by
  have hlen : s.data.toList.length = s.size := by simp
  have run : ∀ (d i : Nat) (u f : Int) (k : Nat), i + d = s.size → 0 ≤ u → u < 18446744073709551616 → d + 26 ≤ k → ∃ x : Int, ∃ ok : Bool, pannierref01_Parse.l0 k s f u (i : Int) = some (x, ok) ∧ ((x = 0 ∧ ok = false) ∨ (ok = true ∧ I64 x ∧ itoaF x = s.data.toList)) := by
    intro d
    induction d with
    | zero =>
      intro i u f k hi h0 h1 hk
      obtain ⟨k, rfl⟩ : ∃ m, k = m + 2 := ⟨k - 2, by omega⟩
      simp only [pannierref01_Parse.l0]
      rw [if_neg (by omega), rsigned_eq _ _ _ h0 h1, Option.bind_some]
      by_cases hin : I64 (if (f == 1) = true then -u else u)
      · rw [M.fit_in hin, if_pos rfl, rdec_eq _ (by omega) _ hin, Option.bind_some, bs_toList, ByteArray.toList_eq]
        by_cases he : itoaF (if (f == 1) = true then -u else u) = s.data.toList
        · rw [if_pos he]; exact ⟨_, _, rfl, .inr ⟨rfl, hin, he⟩⟩
        · rw [if_neg he]; exact ⟨_, _, rfl, .inl ⟨rfl, rfl⟩⟩
      · rw [M.fit_out hin, if_neg (by simp)]; exact ⟨_, _, rfl, .inl ⟨rfl, rfl⟩⟩
    | succ d ih =>
      intro i u f k hi h0 h1 hk
      obtain ⟨k, rfl⟩ : ∃ m, k = m + 1 := ⟨k - 1, by omega⟩
      rw [l0_at k s f u i (by omega) _ rfl]
      have hw : wrap64 ((i : Int) + 1) = ((i + 1 : Nat) : Int) := by rw [M.wrap64_id (by unfold I64; omega)]; omega
      rw [hw]
      split
      · exact ⟨_, _, rfl, .inl ⟨rfl, rfl⟩⟩
      · split
        · exact ⟨_, _, rfl, .inl ⟨rfl, rfl⟩⟩
        · split
          · exact ⟨_, _, rfl, .inl ⟨rfl, rfl⟩⟩
          · refine ih (i + 1) _ f k (by omega) ?_ ?_ (by omega)
            · rw [u64w]; omega
            · rw [u64w]; omega
  have none_ : ∃ x : Int, ∃ ok : Bool, (some ((0 : Int), false)) = some (x, ok) ∧ ((x = 0 ∧ ok = false) ∨ (ok = true ∧ I64 x ∧ itoaF x = s.data.toList)) := ⟨0, false, rfl, .inl ⟨rfl, rfl⟩⟩
  obtain ⟨k, rfl⟩ : ∃ m, k = m + 3 := ⟨k - 3, by omega⟩
  have j2 : ∀ (i : Nat) (c : Bool), i ≤ s.size → ∃ x : Int, ∃ ok : Bool, pannierref01_Parse.j2 (k + 1) s (i : Int) c = some (x, ok) ∧ ((x = 0 ∧ ok = false) ∨ (ok = true ∧ I64 x ∧ itoaF x = s.data.toList)) := by
    intro i c hi
    simp only [pannierref01_Parse.j2]
    cases c
    · rw [if_neg (by simp)]
      exact run (s.size - i) i 0 i k (by omega) (by omega) (by omega) (by omega)
    · rw [if_pos rfl]; exact none_
  have j1 : ∀ i : Nat, i ≤ s.size → ∃ x : Int, ∃ ok : Bool, pannierref01_Parse.j1 (k + 2) s (i : Int) = some (x, ok) ∧ ((x = 0 ∧ ok = false) ∨ (ok = true ∧ I64 x ∧ itoaF x = s.data.toList)) := by
    intro i hi
    simp only [pannierref01_Parse.j1]
    split
    · exact j2 i _ hi
    · exact j2 i _ hi
  unfold pannierref01_Parse.f
  by_cases h : (s.size : Int) > 0
  · rw [if_pos h, if_pos (by omega)]
    simp only [pannierref01_Parse.j0]
    split
    · exact j1 1 (by omega)
    · exact j1 0 (by omega)
  · rw [if_neg h]
    simp only [pannierref01_Parse.j0]
    rw [if_neg (by simp)]
    exact j1 0 (by omega)
theorem rparse_eq (k : Nat) (s : ByteArray) (hs : s.size ≤ 2000) (hk : 2100 ≤ k) : pannierref01_Parse.f k s = some (M.numParse s.data.toList) := by
  obtain ⟨x, ok, h, ⟨rfl, rfl⟩ | ⟨rfl, hx, he⟩⟩ := rparse_tells k s hs hk
  · rw [h, M.numParse_not]
    intro v h0 h1 hv
    have := rparse_itoa k (by omega) v ⟨h0, h1⟩ s hv
    rw [this] at h; simp at h
  · rw [h, ← he, M.numParse_itoa x hx.1 hx.2]
end Go.Proofs.YtmhjnkeflbklpaaDoor.P

namespace Go.Proofs.YtmhjnkeflbklpaaDoor.P
open Go.RowKit Go.Proofs.YtmhjnkeflbklpaaDoorW.PrintWords Go.Proofs.YtmhjnkeflbklpaaDoorW.PrintLast Go.Proofs.YtmhjnkeflbklpaaDoorW.PrintMore
open M (fit I64 u64w dig itoaF)
set_option linter.unusedVariables false
set_option linter.unusedSimpArgs false
def noB : ByteArray := ⟨#[]⟩
theorem noB_list : noB.toList = [] := by rw [ByteArray.toList_eq]; rfl
def goodB (k n : Int) (s : ByteArray) : Bool := (value_Good.f k n s).getD false
theorem vgood_eq (k n : Int) (s : ByteArray) : value_Good.f k n s = some (goodB k n s) := by
  unfold goodB value_Good.f
  repeat' split
  all_goals rfl
theorem vfail_eq {n : Int} (h0 : 1 ≤ n) (h1 : n ≤ 8) : value_Fail.f n = some (4, n, noB) := by
  unfold value_Fail.f; rw [if_neg (by omega), if_neg (by omega)]; rfl
theorem bytes_eq {s t : ByteArray} (h : s.toList = t.toList) : s = t := by
  rw [ByteArray.toList_eq, ByteArray.toList_eq] at h
  exact ByteArray.ext (Array.toList_inj.1 h)
theorem good_cases {k n : Int} {s : ByteArray} (h : goodB k n s = true) : (k = 0 ∧ n = 0 ∧ s = noB) ∨ (k = 1 ∧ (n = 0 ∨ n = 1) ∧ s = noB) ∨ (k = 2 ∧ s = noB) ∨ (k = 3 ∧ n = 0 ∧ s.size ≤ 200) ∨ (k = 4 ∧ 1 ≤ n ∧ n ≤ 8 ∧ s = noB) := by
  have hb : (s.toList == ([] : List UInt8)) = true → s = noB := fun h => bytes_eq (by rw [noB_list]; simpa using h)
  have hg := vgood_eq k n s
  rw [h] at hg
  unfold value_Good.f at hg
  split at hg
  · rename_i e; subst e
    split at hg
    · rename_i e; exact .inl ⟨rfl, e, hb (by simpa using hg)⟩
    · simp at hg
  · split at hg
    · rename_i e; subst e
      split at hg
      · rename_i e; exact .inr (.inl ⟨rfl, .inl e, hb (by simpa using hg)⟩)
      · split at hg
        · rename_i e; exact .inr (.inl ⟨rfl, .inr e, hb (by simpa using hg)⟩)
        · simp at hg
    · split at hg
      · rename_i e; exact .inr (.inr (.inl ⟨e, hb (by simpa using hg)⟩))
      · split at hg
        · rename_i e
          split at hg
          · rename_i e'; simp at hg; exact .inr (.inr (.inr (.inl ⟨e, e', by omega⟩)))
          · simp at hg
        · split at hg
          · rename_i e
            split at hg
            · split at hg
              · rename_i e1 e2; exact .inr (.inr (.inr (.inr ⟨e, e1, e2, hb (by simpa using hg)⟩)))
              · simp at hg
            · simp at hg
          · simp at hg
def faultV (k n : Int) (s : ByteArray) : Int × Int × ByteArray := if goodB k n s = true then (if k = 4 then (k, n, s) else (0, 0, noB)) else (4, 3, noB)
theorem fault_eq (k : Nat) (hk : 1 ≤ k) (t n : Int) (s : ByteArray) : value_fault.f k t n s = some (faultV t n s) := by
  obtain ⟨k, rfl⟩ : ∃ m, k = m + 1 := ⟨k - 1, by omega⟩
  unfold value_fault.f faultV
  by_cases h4 : t = 4
  · rw [if_pos h4, vgood_eq, Option.bind_some, value_fault.j0]
    by_cases hg : goodB t n s = true
    · rw [if_pos hg, if_pos hg, if_pos h4]
    · rw [if_neg hg, if_neg hg, vgood_eq, Option.bind_some, if_neg hg, vfail_eq (by omega) (by omega)]; rfl
  · rw [if_neg h4, value_fault.j0, if_neg (by simp), vgood_eq, Option.bind_some]
    by_cases hg : goodB t n s = true
    · rw [if_pos hg, if_pos hg, if_neg h4]; rfl
    · rw [if_neg hg, if_neg hg, vfail_eq (by omega) (by omega)]; rfl
theorem wakes03 (k : Nat) (hk : 100 ≤ k) : pannierlaw03_wakes.f k = some true :=
  at_rounds pannierlaw03_wakes.mono hk (by decide +kernel)
end Go.Proofs.YtmhjnkeflbklpaaDoor.P

namespace Go.Proofs.YtmhjnkeflbklpaaDoor.P
open Go.RowKit Go.Proofs.YtmhjnkeflbklpaaDoorW.PrintWords Go.Proofs.YtmhjnkeflbklpaaDoorW.PrintLast Go.Proofs.YtmhjnkeflbklpaaDoorW.PrintMore
open M (fit I64 u64w dig itoaF)
set_option linter.unusedVariables false
set_option linter.unusedSimpArgs false
def showS (k n : Int) (s : ByteArray) : ByteArray := if goodB k n s = true then (if k = 2 then bs (itoaF n) else if k = 1 then (if n = 1 then ⟨#[84, 82, 85, 69]⟩ else ⟨#[70, 65, 76, 83, 69]⟩) else if k = 4 then nm n.toNat else s) else ⟨#[63]⟩
theorem show_eq (k n : Int) (s : ByteArray) (hn : I64 n) : value_Show.f k n s = some (showS k n s) := by
  unfold value_Show.f showS
  rw [vgood_eq, Option.bind_some]
  by_cases hg : goodB k n s = true
  · rw [if_pos hg, if_pos hg]
    by_cases h2 : k = 2
    · rw [if_pos h2, if_pos h2, dec_one n hn]
    · rw [if_neg h2, if_neg h2]
      by_cases h1 : k = 1
      · rw [if_pos h1, if_pos h1]; split <;> rfl
      · rw [if_neg h1, if_neg h1]
        by_cases h4 : k = 4
        · rw [if_pos h4, if_pos h4]
          have : 0 ≤ n ∧ n < 9 := by rcases good_cases hg with h | h | h | h | h <;> omega
          rw [if_pos this]
        · rw [if_neg h4, if_neg h4]
  · rw [if_neg hg, if_neg hg]
def strV (k n : Int) (s : ByteArray) : ByteArray × Int × Int × ByteArray := if goodB k n s = true ∧ k ≠ 4 then (showS k n s, 0, 0, noB) else (noB, faultV k n s)
theorem fault_none {k n : Int} {s : ByteArray} (h : goodB k n s = true) (h4 : k ≠ 4) : faultV k n s = (0, 0, noB) := by unfold faultV; rw [if_pos h, if_neg h4]
theorem fault_some {k n : Int} {s : ByteArray} (h : ¬ (goodB k n s = true ∧ k ≠ 4)) : (faultV k n s).1 = 4 := by
  unfold faultV
  by_cases hg : goodB k n s = true
  · have h4 : k = 4 := by
      by_cases h4 : k = 4
      · exact h4
      · exact absurd ⟨hg, h4⟩ h
    rw [if_pos hg, if_pos h4, h4]
  · rw [if_neg hg]
theorem str_eq (r : Nat) (hr : 1 ≤ r) (k n : Int) (s : ByteArray) (hn : I64 n) : value_Str.f r k n s = some (strV k n s) := by
  unfold value_Str.f strV
  rw [fault_eq r hr, Option.bind_some]
  by_cases h : goodB k n s = true ∧ k ≠ 4
  · rw [if_pos h, fault_none h.1 h.2, if_pos rfl, show_eq k n s hn, Option.bind_some]; rfl
  · have := fault_some h
    rw [if_neg h, if_neg (by omega)]; rfl
def numV (k n : Int) (s : ByteArray) : Int × Int × Int × ByteArray :=
  if goodB k n s = true ∧ k ≠ 4 then (if k = 3 then (if (M.numParse s.data.toList).2 = true then ((M.numParse s.data.toList).1, 0, 0, noB) else (0, 4, 3, noB)) else (n, 0, 0, noB)) else (0, faultV k n s)
theorem num_eq (r : Nat) (hr : 1 ≤ r) (k n : Int) (s : ByteArray) : value_Num.f r k n s = some (numV k n s) := by
  unfold value_Num.f numV
  rw [fault_eq r hr, Option.bind_some]
  by_cases h : goodB k n s = true ∧ k ≠ 4
  · rw [if_pos h, fault_none h.1 h.2, if_pos rfl]
    by_cases h3 : k = 3
    · have hs : s.size ≤ 200 := by rcases good_cases h.1 with h | h | h | h | h <;> omega
      have hp : num_Parse.f s = some (M.numParse s.data.toList) := by unfold num_Parse.f; rw [if_pos (by omega)]
      rw [if_pos h3, if_pos h3, hp, Option.bind_some]
      by_cases hq : (M.numParse s.data.toList).2 = true
      · rw [if_pos hq, if_pos hq]; rfl
      · rw [if_neg hq, if_neg hq, vfail_eq (by omega) (by omega)]; rfl
    · rw [if_neg h3, if_neg h3]; rfl
  · have := fault_some h
    rw [if_neg h, if_neg (by omega)]
def yesS : List UInt8 := [84, 82, 85, 69]
def noS : List UInt8 := [70, 65, 76, 83, 69]
def flagV (k n : Int) (s : ByteArray) : Bool × Int × Int × ByteArray :=
  if goodB k n s = true ∧ k ≠ 4 then (if k = 3 then (if s.toList = yesS then (true, 0, 0, noB) else if s.toList = noS then (n != 0, 0, 0, noB) else (false, 4, 3, noB)) else (n != 0, 0, 0, noB)) else (false, faultV k n s)
theorem flag_eq (r : Nat) (hr : 1 ≤ r) (k n : Int) (s : ByteArray) : value_Flag.f r k n s = some (flagV k n s) := by
  obtain ⟨r, rfl⟩ : ∃ m, r = m + 1 := ⟨r - 1, by omega⟩
  unfold value_Flag.f flagV yesS noS
  rw [fault_eq _ hr, Option.bind_some]
  by_cases h : goodB k n s = true ∧ k ≠ 4
  · rw [if_pos h, fault_none h.1 h.2, if_pos rfl]
    by_cases h3 : k = 3
    · rw [if_pos h3, if_pos h3]
      by_cases hy : s.toList = ([84, 82, 85, 69] : List UInt8)
      · rw [if_pos hy, show (s.toList == [84, 82, 85, 69]) = true by simpa using hy, value_Flag.j0, if_pos rfl]; rfl
      · rw [if_neg hy, show (s.toList == [84, 82, 85, 69]) = false by simpa using hy, value_Flag.j0, if_neg (by simp), if_pos h3]
        by_cases hz : s.toList = ([70, 65, 76, 83, 69] : List UInt8)
        · rw [if_pos hz, if_pos hz]; rfl
        · rw [if_neg hz, if_neg hz, vfail_eq (by omega) (by omega)]; rfl
    · rw [if_neg h3, if_neg h3, value_Flag.j0, if_neg (by simp), if_neg h3]; rfl
  · have := fault_some h
    rw [if_neg h, if_neg (by omega)]
end Go.Proofs.YtmhjnkeflbklpaaDoor.P

namespace Go.Proofs.YtmhjnkeflbklpaaDoor.P
open Go.RowKit Go.Proofs.YtmhjnkeflbklpaaDoorW.PrintWords Go.Proofs.YtmhjnkeflbklpaaDoorW.PrintLast Go.Proofs.YtmhjnkeflbklpaaDoorW.PrintMore
open M (fit I64 itoaF)
set_option linter.unusedVariables false
set_option linter.unusedSimpArgs false
theorem rgood10 (k n : Int) (s : ByteArray) : pannierref03_Good.f k n s = some (goodB k n s) := vgood_eq k n s
theorem rfail10 {n : Int} (h0 : 1 ≤ n) (h1 : n ≤ 8) : pannierref03_Fail.f n = some (4, n, noB) := by
  unfold pannierref03_Fail.f; rw [if_neg (by omega), if_neg (by omega)]; rfl
theorem rnum10 (r : Nat) (hr : 2100 ≤ r) (k n : Int) (s : ByteArray) : pannierref03_Num.f r k n s = some ((numV k n s).1, false, noB, (numV k n s).2) := by
  unfold pannierref03_Num.f numV faultV
  rw [rgood10, Option.bind_some]
  by_cases hg : goodB k n s = true
  · by_cases h4 : k = 4
    · simp only [if_pos hg, if_pos h4, if_neg (show ¬ (goodB k n s = true ∧ k ≠ 4) from fun h => h.2 h4)]; rfl
    · have hx : goodB k n s = true ∧ k ≠ 4 := ⟨hg, h4⟩
      simp only [if_pos hg, if_neg h4, if_pos hx]
      by_cases h3 : k = 3
      · have hs : s.size ≤ 200 := by rcases good_cases hg with h | h | h | h | h <;> omega
        simp only [if_pos h3]
        rw [rparse_eq r s (by omega) hr, Option.bind_some]
        by_cases hq : (M.numParse s.data.toList).2 = true
        · simp only [if_pos hq]; rfl
        · simp only [if_neg hq]; rw [rfail10 (by omega) (by omega)]; rfl
      · simp only [if_neg h3]; rfl
  · simp only [if_neg hg, if_neg (show ¬ (goodB k n s = true ∧ k ≠ 4) from fun h => hg h.1)]; rw [rfail10 (by omega) (by omega)]; rfl
theorem rflag10 (k n : Int) (s : ByteArray) : pannierref03_Flag.f k n s = some (0, (flagV k n s).1, noB, (flagV k n s).2) := by
  unfold pannierref03_Flag.f flagV faultV yesS noS
  rw [rgood10, Option.bind_some]
  by_cases hg : goodB k n s = true
  · by_cases h4 : k = 4
    · simp only [if_pos hg, if_pos h4, if_neg (show ¬ (goodB k n s = true ∧ k ≠ 4) from fun h => h.2 h4)]; rfl
    · have hx : goodB k n s = true ∧ k ≠ 4 := ⟨hg, h4⟩
      simp only [if_pos hg, if_neg h4, if_pos hx]
      by_cases h3 : k = 3
      · have hn : n = 0 := by rcases good_cases hg with h | h | h | h | h <;> omega
        simp only [if_pos h3]
        by_cases hy : s.toList = ([84, 82, 85, 69] : List UInt8)
        · simp only [if_pos hy]; rw [show (s.toList == ([84, 82, 85, 69] : List UInt8)) = true by simpa using hy]; rfl
        · simp only [if_neg hy]
          by_cases hz : s.toList = ([70, 65, 76, 83, 69] : List UInt8)
          · simp only [if_pos hz]; rw [show (s.toList == ([84, 82, 85, 69] : List UInt8)) = false by simpa using hy, hn]; rfl
          · simp only [if_neg hz]; rw [rfail10 (by omega) (by omega)]; rfl
      · simp only [if_neg h3]; rfl
  · simp only [if_neg hg, if_neg (show ¬ (goodB k n s = true ∧ k ≠ 4) from fun h => hg h.1)]; rw [rfail10 (by omega) (by omega)]; rfl
theorem rshow10 (r : Nat) (hr : 21 ≤ r) (k n : Int) (s : ByteArray) (hn : I64 n) (hg : goodB k n s = true) (h4 : k ≠ 4) : pannierref03_Show.f r k n s = some (showS k n s) := by
  unfold pannierref03_Show.f showS
  rw [rgood10, Option.bind_some]
  simp only [if_pos hg, if_neg h4]
  by_cases h1 : k = 1
  · simp only [if_pos h1, if_neg (show ¬ k = 2 by omega)]; split <;> rfl
  · simp only [if_neg h1]
    by_cases h2 : k = 2
    · simp only [if_pos h2]; rw [rdec_eq r hr n hn]; rfl
    · simp only [if_neg h2]
      by_cases h3 : k = 3
      · simp only [if_pos h3]
      · have hs : s = noB := by rcases good_cases hg with h | h | h | h | h <;> first | omega | exact h.2.2
        simp only [if_neg h3]; rw [hs]; rfl
theorem rstr10 (r : Nat) (hr : 21 ≤ r) (k n : Int) (s : ByteArray) (hn : I64 n) : pannierref03_Str.f r k n s = some (0, false, (strV k n s).1, (strV k n s).2) := by
  unfold pannierref03_Str.f strV faultV
  rw [rgood10, Option.bind_some]
  by_cases hg : goodB k n s = true
  · by_cases h4 : k = 4
    · simp only [if_pos hg, if_pos h4, if_neg (show ¬ (goodB k n s = true ∧ k ≠ 4) from fun h => h.2 h4)]; rfl
    · have hx : goodB k n s = true ∧ k ≠ 4 := ⟨hg, h4⟩
      simp only [if_pos hg, if_neg h4, if_pos hx]
      rw [rshow10 r hr k n s hn hg h4]; rfl
  · simp only [if_neg hg, if_neg (show ¬ (goodB k n s = true ∧ k ≠ 4) from fun h => hg h.1)]; rw [rfail10 (by omega) (by omega)]; rfl
theorem rshow_all (r : Nat) (hr : 21 ≤ r) (k n : Int) (s : ByteArray) (hn : I64 n) : pannierref03_Show.f r k n s = some (showS k n s) := by
  by_cases hg : goodB k n s = true
  · by_cases h4 : k = 4
    · subst h4
      have hc : 1 ≤ n ∧ n ≤ 8 := by rcases good_cases hg with h | h | h | h | h <;> omega
      unfold pannierref03_Show.f showS
      rw [rgood10, Option.bind_some, if_pos hg, if_pos hg]
      have h1 : ¬ (4 : Int) = 1 := by decide
      have h2 : ¬ (4 : Int) = 2 := by decide
      have h3 : ¬ (4 : Int) = 3 := by decide
      simp only [if_neg h1, if_neg h2, if_neg h3, if_pos rfl, Option.bind_some]
      have h8 : n = 1 ∨ n = 2 ∨ n = 3 ∨ n = 4 ∨ n = 5 ∨ n = 6 ∨ n = 7 ∨ n = 8 := by omega
      clear hg hn hc hr
      rcases h8 with rfl | rfl | rfl | rfl | rfl | rfl | rfl | rfl <;> (rw [if_pos trivial, if_pos trivial]; decide +kernel)
    · exact rshow10 r hr k n s hn hg h4
  · unfold pannierref03_Show.f showS
    rw [rgood10, Option.bind_some, if_neg hg, if_neg hg]
theorem keepv_same3 (a b : Int) (s : ByteArray) : pannierkeep_Value.f a b s a b s = some true := by
  unfold pannierkeep_Value.f; rw [if_pos rfl, if_pos rfl]; simp
theorem ValueAs_any (a b : Int) (s : ByteArray) (hb : I64 b) : ∃ k, pannierlaw03_ValueAs.f k a b s = some true := by
  refine ⟨3000, ?_⟩
  unfold pannierlaw03_ValueAs.f pannierlaw03_large.f
  rw [Option.bind_some]
  by_cases hl : (s.size : Int) > 2000
  · rw [if_pos (by rw [decide_eq_true hl]), wakes03 _ (by omega)]; rfl
  · rw [if_neg (by rw [decide_eq_false hl]; decide), num_eq 3000 (by omega), flag_eq 3000 (by omega), str_eq 3000 (by omega) _ _ _ hb, rnum10 3000 (by omega), rflag10, rstr10 3000 (by omega) _ _ _ hb, show_eq _ _ _ hb, rshow_all 3000 (by omega) _ _ _ hb]
    simp only [Option.bind_some]
    rw [if_pos trivial, if_pos trivial, keepv_same3, Option.bind_some, if_pos rfl, if_pos (by simp), keepv_same3, Option.bind_some, if_pos rfl, if_pos trivial, keepv_same3, Option.bind_some, if_pos rfl, wakes03 _ (by omega)]
    rfl
theorem ValueAs_pure (a b : Int) (s : ByteArray) (w0 : (Lit.int .i64 a).wf = true) (w1 : (Lit.int .i64 b).wf = true) : ∃ k, pannierlaw03_ValueAs.f k a b s = some true := ValueAs_any a b s (M.i64wf w1)
end Go.Proofs.YtmhjnkeflbklpaaDoor.P
