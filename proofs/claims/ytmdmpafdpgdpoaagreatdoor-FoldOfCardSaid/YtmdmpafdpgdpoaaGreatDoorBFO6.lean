/- Contracts of the functions that the law reaches, each with the plain function that it comes to, and plain facts about these. -/
import Derived.Test.YtmdmpafdpgdpoaaGreatDoorBFO2
import Derived.Test.YtmdmpafdpgdpoaaGreatDoorBFO4
import Derived.Test.YtmdmpafdpgdpoaaGreatDoorBFO5
namespace Go.Proofs.YtmdmpafdpgdpoaaGreatDoor.P
open Go.RowKit Go.Proofs.YtmdmpafdpgdpoaaGreatDoorW.PrintWords Go.Proofs.YtmdmpafdpgdpoaaGreatDoorW.PrintLast Go.Proofs.YtmdmpafdpgdpoaaGreatDoorW.PrintMore
attribute [local go_sem] max2_int min2_int max_two min_two max_three min_three max_four min_four   -- for this text's walks alone
set_option linter.unusedVariables false
set_option linter.unusedSimpArgs false
def pannierref10_truth.l0 : Nat → ByteArray → List (S26) → Bool → Int → Option (Int × Int × ByteArray × Bool)
  | 0, _, _, _, _ => none
  | k + 1, x0, x1, x5, x6 => if x6 < (x1.length : Int) then (if 0 ≤ x6 then ((pannierref03_Flag.f ((rd_T26 x1 x6).f0) ((rd_T26 x1 x6).f1) ((rd_T26 x1 x6).f2)).bind fun bt346 => (if bt346.2.2.2.1 = 4 then (some (bt346.2.2.2.1, bt346.2.2.2.2.1, bt346.2.2.2.2.2, true)) else (if x0.toList = ([65, 78, 68] : List UInt8) then (if x5 = true then (pannierref10_truth.l0 k x0 x1 bt346.2.1 (wrap64 (x6 + 1))) else (pannierref10_truth.l0 k x0 x1 false (wrap64 (x6 + 1)))) else (if x5 = true then (pannierref10_truth.l0 k x0 x1 true (wrap64 (x6 + 1))) else (pannierref10_truth.l0 k x0 x1 bt346.2.1 (wrap64 (x6 + 1))))))) else (none)) else ((pannierref10_flag.f x5).bind fun bt341 => (some (bt341.1, bt341.2.1, bt341.2.2.1, bt341.2.2.2)))
def pannierref10_truth.f (k : Nat) (a0 : ByteArray) (l1 : List (S26)) : Option (Int × Int × ByteArray × Bool) := pannierref10_truth.l0 k a0 l1 (a0.toList == ([65, 78, 68] : List UInt8)) 0
set_option maxHeartbeats 8000000 in
set_option maxRecDepth 100000 in
theorem pannierref10_truth.calls (k : Nat) (a0 : ByteArray) (A1 : Option Addr) (c1 : Nat) (l1 : List (S26)) (r1 : Int) (r2 : Int) (r3 : ByteArray) (r4 : Bool) (w : World) (hr1 : Kd.C k26 w A1 l1.length l1) (hc1 : l1.length ≤ c1) (h : pannierref10_truth.f k a0 l1 = some (r1, r2, r3, r4)) :
    Calls Tryz.prog 31 #[.string a0, .slice A1 l1.length c1] w fun e w' => e = .returned (.agg #[.int .i64 r1, .int .i64 r2, .string r3, .bool r4]) ∧ Below w.heap.size w w' := by
  have hu30 := Tryz.underlying30
  have hu26 := Tryz.underlying26
  have hu69 := Tryz.underlying69
  have HR1 := Aside0.mk hr1
  have HC1 := Aside0.mk hc1
  clear hr1 hc1
  have HB := Aside0.mk (Below.refl w.heap.size w)
  have H : (pannierref10_truth.l0 k a0 l1 (a0.toList == ([65, 78, 68] : List UInt8)) 0) = some (r1, r2, r3, r4) := h
  clear h
  have H' := Aside0.mk H
  clear H
  go_enter Tryz.func31, Tryz.ntmps31
  go_wp2_with (first | ((with_reducible refine gate_dst (N := 4) rfl ?_); refine box_event ?hg (N := 4) ?hd (cs := #[.int .i64 0, .int .i64 0, .string (⟨#[]⟩ : ByteArray), .bool false]) (t := 30) ?hr ?_; (case hd => rfl); (case hg => rfl); (case hr => first | (go_simp; done) | (go_simp; rfl)); intro gb340 hg w3 hbox hb; have n0_ := Aside0.mk (below_step (by repeat first | with_reducible exact HB.out | refine zS ?_ | exact HB.out) hb); have n1_ := Aside0.mk (hbox); have n2_ := Aside0.mk ((by rw [hg]; exact (below_size (by repeat first | with_reducible exact HB.out | refine zS ?_ | exact HB.out)) : w.heap.size ≤ gb340)); have n3_ := n2_; clear HB; have HB := n0_; have BK340 := n1_; have GW340 := n2_; have GE340 := n3_; clear n0_ n1_ n2_ n3_; clear hb hbox hg))
  generalize hb9_ : (a0.toList == ([65, 78, 68] : List UInt8)) = b9_
  go_loopg [5, 6] k (fun kq v5 v6 w' => ∃ (x5_1 : Bool) (x6_1 : Int) (x341000_1 : Int) (x341001_1 : Int) (x341002_1 : ByteArray) (x341003_1 : Bool), v5 = .bool x5_1 ∧ v6 = .int .i64 x6_1 ∧ Aside0 (pannierref10_truth.l0 kq a0 l1 x5_1 x6_1 = some (r1, r2, r3, r4)) ∧ Aside0 (kq ≤ k) ∧ Aside0 (w'.heap[gb340]? = some (.cells #[.int .i64 x341000_1, .int .i64 x341001_1, .string x341002_1, .bool x341003_1] 30 (0, 0))) ∧ Aside0 (Below w.heap.size w w'))
  case atStart => exact ⟨b9_, (0), (0), (0), ((⟨#[]⟩ : ByteArray)), (false), (by first | rfl | (simp; done) | (simp [*]; done)), (by first | rfl | (simp; done) | (simp [*]; done)), (by rw [← hb9_]; exact H'), ⟨Nat.le_refl _⟩, ⟨by exact zB BK340.out⟩, ⟨by repeat first | with_reducible exact HB.out | refine zS ?_ | refine below_set ?_ GE340.out | exact HB.out⟩⟩
  case round =>
    clear hb9_
    clear H'
    try clear c1
    try clear p2
    try clear c3
    obtain ⟨x5_1, x6_1, x341000_1, x341001_1, x341002_1, x341003_1, rfl, rfl, HA, HK1, BK340, HB⟩ := hrel
    cases gk with
    | zero => exact absurd HA.out (by simp [pannierref10_truth.l0])
    | succ k1 =>
      have H := HA.out
      clear HA
      simp only [pannierref10_truth.l0] at H
      by_cases c4 : x6_1 < (l1.length : Int)
      · rw [if_pos c4] at H
        have c4b0 : decide (x6_1 < (l1.length : Int)) = true := decide_eq_true c4
        clear c4
        by_cases c5 : 0 ≤ x6_1
        · rw [if_pos c5] at H
          have c5b0 : decide (0 ≤ x6_1) = true := decide_eq_true c5
          clear c5
          replace H := Option.bind_eq_some_iff.mp H
          obtain ⟨⟨t346, t347, t348, t349, t350, t351⟩, A60, H⟩ := H
          replace H : (if t349 = 4 then (some (t349, t350, t351, true)) else (if a0.toList = ([65, 78, 68] : List UInt8) then (if x5_1 = true then (pannierref10_truth.l0 k1 a0 l1 t347 (wrap64 (x6_1 + 1))) else (pannierref10_truth.l0 k1 a0 l1 false (wrap64 (x6_1 + 1)))) else (if x5_1 = true then (pannierref10_truth.l0 k1 a0 l1 true (wrap64 (x6_1 + 1))) else (pannierref10_truth.l0 k1 a0 l1 t347 (wrap64 (x6_1 + 1)))))) = some (r1, r2, r3, r4) := H
          have A6 := Aside0.mk A60
          clear A60
          by_cases c7 : t349 = 4
          · rw [if_pos c7] at H
            have c7b0 : (t349 == 4) = true := beq_iff_eq.mpr c7
            have c7b1 : (t349 != 4) = false := bne_eq_false_iff_eq.mpr c7
            clear c7
            simp only [Option.some.injEq, Prod.mk.injEq] at H
            obtain ⟨rfl, rfl, rfl, rfl⟩ := H
            have p345 : 0 ≤ (x6_1 : Int) := of_decide_eq_true (by first | (with_reducible assumption) | assumption)
            have q345 : x6_1 < (l1.length : Int) := of_decide_eq_true (by first | (with_reducible assumption) | assumption)
            obtain ⟨ad345, e345, hx345_0, hx345_1, hx345_2⟩ := at_T26 HR1.out x6_1 p345 q345
            cases e345
            replace hx345_0 := (HB.out.cell (World.block_lt_of_cell? w _ hx345_0)).trans hx345_0
            replace hx345_1 := (HB.out.cell (World.block_lt_of_cell? w _ hx345_1)).trans hx345_1
            replace hx345_2 := (HB.out.cell (World.block_lt_of_cell? w _ hx345_2)).trans hx345_2
            replace p345 := eq_true p345
            replace q345 := eq_true q345
            go_wp2_with (first | ((with_reducible refine gate_callee (f := 57) rfl ?_); refine goesL_ (some 20) rfl rfl Tryz.func57 (by kernel_rfl) rfl #[.agg #[.int .i64 ((rd_T26 l1 x6_1).f0), .int .i64 ((rd_T26 l1 x6_1).f1), .string ((rd_T26 l1 x6_1).f2)]] rfl (by (try simp only [List.map_toArray, List.map_cons, List.map_nil]); first | done | rfl | (simp only [List.length_drop, List.length_take]; rfl)) ?_; (with_reducible refine (pannierref03_Flag.calls ((rd_T26 l1 x6_1).f0) ((rd_T26 l1 x6_1).f1) ((rd_T26 l1 x6_1).f2) t346 t347 t348 t349 t350 t351 _ A6.out).mono ?_); rintro e w8 ⟨rfl, hb⟩; refine ⟨_, rfl, ?_⟩; have n0_ := Aside0.mk (blk_below (g := gb340) (o := .cells #[.int .i64 x341000_1, .int .i64 x341001_1, .string x341002_1, .bool x341003_1] 30 (0, 0)) (zB BK340.out) hb); have n1_ := Aside0.mk (below_step (by repeat first | with_reducible exact HB.out | refine zS ?_ | refine below_set ?_ GE340.out | exact HB.out) hb); clear BK340; clear HB; have BK340 := n0_; have HB := n1_; clear n0_ n1_; (try clear hb); (try clear hb2); (try clear hk); (try clear hi)) | ((with_reducible refine gate_dst (N := 7) rfl ?_); refine box_event ?hg (N := 7) ?hd (cs := #[.int .i64 0, .bool false, .string (⟨#[]⟩ : ByteArray), .int .i64 0, .int .i64 0, .string (⟨#[]⟩ : ByteArray)]) (t := 69) ?hr ?_; (case hd => rfl); (case hg => rfl); (case hr => first | (go_simp; done) | (go_simp; rfl)); intro gb352 hg w9 hbox hb; have n0_ := Aside0.mk (blk_below (g := gb340) (o := .cells #[.int .i64 x341000_1, .int .i64 x341001_1, .string x341002_1, .bool x341003_1] 30 (0, 0)) (zB BK340.out) hb); have n1_ := Aside0.mk (below_step (by repeat first | with_reducible exact HB.out | refine zS ?_ | refine below_set ?_ GE340.out | exact HB.out) hb); have n2_ := Aside0.mk (hbox); have n3_ := Aside0.mk ((by rw [hg]; exact (below_size (by repeat first | with_reducible exact HB.out | refine zS ?_ | refine below_set ?_ GE340.out | exact HB.out)) : w.heap.size ≤ gb352)); have n4_ := n3_; have n5_ := Aside0.mk ((by rw [hg]; exact Nat.ne_of_lt (blk_lt (g := gb340) (o := .cells #[.int .i64 x341000_1, .int .i64 x341001_1, .string x341002_1, .bool x341003_1] 30 (0, 0)) (zB BK340.out)) : gb340 ≠ gb352)); have n6_ := Aside0.mk ((by rw [hg]; exact Nat.ne_of_gt (blk_lt (g := gb340) (o := .cells #[.int .i64 x341000_1, .int .i64 x341001_1, .string x341002_1, .bool x341003_1] 30 (0, 0)) (zB BK340.out)) : gb352 ≠ gb340)); clear BK340; clear HB; have BK340 := n0_; have HB := n1_; have BK352 := n2_; have GW352 := n3_; have GE352 := n4_; have NB340_352 := n5_; have NB352_340 := n6_; clear n0_ n1_ n2_ n3_ n4_ n5_ n6_; clear hb hbox hg; have hnb10 := NB352_340.out; have hnc10 := NB340_352.out; obtain ⟨hcz11_0, hcz11_1, hcz11_2, hcz11_3, hcz11_4, hcz11_5, hfz11_0, hfz11_1, hfz11_2, hfz11_3, hfz11_4, hfz11_5⟩ := zC6 BK352.out; obtain ⟨hcz12_0, hcz12_1, hcz12_2, hcz12_3, hfz12_0, hfz12_1, hfz12_2, hfz12_3⟩ := zC4 BK340.out))
            refine bodyPost_ret (results_cell_row rfl _ _ gb340 30 #[.int .i64 t349, .int .i64 t350, .string t351, .bool true] (0, 0) _ rfl (by refine zB ?_; refine blk_put (cs := #[.int .i64 t349, .int .i64 t350, .string t351, .bool x341003_1]) ?_ 3 _ rfl; refine zB ?_; refine blk_put (cs := #[.int .i64 t349, .int .i64 t350, .string x341002_1, .bool x341003_1]) ?_ 2 _ rfl; refine zB ?_; refine blk_put (cs := #[.int .i64 t349, .int .i64 x341001_1, .string x341002_1, .bool x341003_1]) ?_ 1 _ rfl; refine zB ?_; refine blk_put (cs := #[.int .i64 x341000_1, .int .i64 x341001_1, .string x341002_1, .bool x341003_1]) ?_ 0 _ rfl; refine zB (blk_far ?_ NB340_352.out _); refine zB ?_; refine blk_far ?_ NB340_352.out _; refine zB (blk_far ?_ NB340_352.out _); refine zB ?_; refine blk_far ?_ NB340_352.out _; refine zB (blk_far ?_ NB340_352.out _); refine zB (blk_far ?_ NB340_352.out _); refine zB ?_; exact BK340.out) Tryz.underlying30 rfl (by kernel_rfl)) rfl ?_
            exact ⟨by first | rfl | (simp [errW_none, errW_some] <;> rfl) | (simp [*, errW_none, errW_some] <;> rfl), by repeat first | with_reducible exact HB.out | refine zS ?_ | refine below_set ?_ GE340.out | refine below_set ?_ GE352.out | exact HB.out⟩
          · rw [if_neg c7] at H
            have c7b0 : (t349 == 4) = false := beq_eq_false_iff_ne.mpr c7
            have c7b1 : (t349 != 4) = true := bne_iff_ne.mpr c7
            by_cases c13 : a0.toList = ([65, 78, 68] : List UInt8)
            · rw [if_pos c13] at H
              have c13b0 : (a0.toList == ([65, 78, 68] : List UInt8)) = true := beq_iff_eq.mpr c13
              have c13b1 : (a0.toList != ([65, 78, 68] : List UInt8)) = false := bne_eq_false_iff_eq.mpr c13
              clear c13
              by_cases c14 : x5_1 = true
              · subst c14
                have H1 : (pannierref10_truth.l0 k1 a0 l1 t347 (wrap64 (x6_1 + 1))) = some (r1, r2, r3, r4) := by rw [if_pos rfl] at H; exact H
                clear H
                have H := H1
                clear H1
                have H' := Aside0.mk H
                clear H
                have p345 : 0 ≤ (x6_1 : Int) := of_decide_eq_true (by first | (with_reducible assumption) | assumption)
                have q345 : x6_1 < (l1.length : Int) := of_decide_eq_true (by first | (with_reducible assumption) | assumption)
                obtain ⟨ad345, e345, hx345_0, hx345_1, hx345_2⟩ := at_T26 HR1.out x6_1 p345 q345
                cases e345
                replace hx345_0 := (HB.out.cell (World.block_lt_of_cell? w _ hx345_0)).trans hx345_0
                replace hx345_1 := (HB.out.cell (World.block_lt_of_cell? w _ hx345_1)).trans hx345_1
                replace hx345_2 := (HB.out.cell (World.block_lt_of_cell? w _ hx345_2)).trans hx345_2
                replace p345 := eq_true p345
                replace q345 := eq_true q345
                go_wp2_with (first | ((with_reducible refine gate_callee (f := 57) rfl ?_); refine goesL_ (some 20) rfl rfl Tryz.func57 (by kernel_rfl) rfl #[.agg #[.int .i64 ((rd_T26 l1 x6_1).f0), .int .i64 ((rd_T26 l1 x6_1).f1), .string ((rd_T26 l1 x6_1).f2)]] rfl (by (try simp only [List.map_toArray, List.map_cons, List.map_nil]); first | done | rfl | (simp only [List.length_drop, List.length_take]; rfl)) ?_; (with_reducible refine (pannierref03_Flag.calls ((rd_T26 l1 x6_1).f0) ((rd_T26 l1 x6_1).f1) ((rd_T26 l1 x6_1).f2) t346 t347 t348 t349 t350 t351 _ A6.out).mono ?_); rintro e w15 ⟨rfl, hb⟩; refine ⟨_, rfl, ?_⟩; have n0_ := Aside0.mk (blk_below (g := gb340) (o := .cells #[.int .i64 x341000_1, .int .i64 x341001_1, .string x341002_1, .bool x341003_1] 30 (0, 0)) (zB BK340.out) hb); have n1_ := Aside0.mk (below_step (by repeat first | with_reducible exact HB.out | refine zS ?_ | refine below_set ?_ GE340.out | exact HB.out) hb); clear BK340; clear HB; have BK340 := n0_; have HB := n1_; clear n0_ n1_; (try clear hb); (try clear hb2); (try clear hk); (try clear hi)) | ((with_reducible refine gate_dst (N := 7) rfl ?_); refine box_event ?hg (N := 7) ?hd (cs := #[.int .i64 0, .bool false, .string (⟨#[]⟩ : ByteArray), .int .i64 0, .int .i64 0, .string (⟨#[]⟩ : ByteArray)]) (t := 69) ?hr ?_; (case hd => rfl); (case hg => rfl); (case hr => first | (go_simp; done) | (go_simp; rfl)); intro gb352 hg w16 hbox hb; have n0_ := Aside0.mk (blk_below (g := gb340) (o := .cells #[.int .i64 x341000_1, .int .i64 x341001_1, .string x341002_1, .bool x341003_1] 30 (0, 0)) (zB BK340.out) hb); have n1_ := Aside0.mk (below_step (by repeat first | with_reducible exact HB.out | refine zS ?_ | refine below_set ?_ GE340.out | exact HB.out) hb); have n2_ := Aside0.mk (hbox); have n3_ := Aside0.mk ((by rw [hg]; exact (below_size (by repeat first | with_reducible exact HB.out | refine zS ?_ | refine below_set ?_ GE340.out | exact HB.out)) : w.heap.size ≤ gb352)); have n4_ := n3_; have n5_ := Aside0.mk ((by rw [hg]; exact Nat.ne_of_lt (blk_lt (g := gb340) (o := .cells #[.int .i64 x341000_1, .int .i64 x341001_1, .string x341002_1, .bool x341003_1] 30 (0, 0)) (zB BK340.out)) : gb340 ≠ gb352)); have n6_ := Aside0.mk ((by rw [hg]; exact Nat.ne_of_gt (blk_lt (g := gb340) (o := .cells #[.int .i64 x341000_1, .int .i64 x341001_1, .string x341002_1, .bool x341003_1] 30 (0, 0)) (zB BK340.out)) : gb352 ≠ gb340)); clear BK340; clear HB; have BK340 := n0_; have HB := n1_; have BK352 := n2_; have GW352 := n3_; have GE352 := n4_; have NB340_352 := n5_; have NB352_340 := n6_; clear n0_ n1_ n2_ n3_ n4_ n5_ n6_; clear hb hbox hg; have hnb17 := NB352_340.out; have hnc17 := NB340_352.out; obtain ⟨hcz18_0, hcz18_1, hcz18_2, hcz18_3, hcz18_4, hcz18_5, hfz18_0, hfz18_1, hfz18_2, hfz18_3, hfz18_4, hfz18_5⟩ := zC6 BK352.out))
                go_roundg k1
                case measure => have := HK1.out; omega
                case rel => exact ⟨(t347), (wrap64 (x6_1 + 1)), (x341000_1), (x341001_1), (x341002_1), (x341003_1), (by first | rfl | (simp; done) | (simp [*]; done)), (by first | rfl | (simp; done) | (simp [*]; done)), H', ⟨by have := HK1.out; omega⟩, ⟨by refine zB (blk_far ?_ NB340_352.out _); refine zB ?_; refine blk_far ?_ NB340_352.out _; refine zB (blk_far ?_ NB340_352.out _); refine zB ?_; refine blk_far ?_ NB340_352.out _; refine zB (blk_far ?_ NB340_352.out _); refine zB (blk_far ?_ NB340_352.out _); refine zB ?_; exact BK340.out⟩, ⟨by repeat first | with_reducible exact HB.out | refine zS ?_ | refine below_set ?_ GE340.out | refine below_set ?_ GE352.out | exact HB.out⟩⟩
              · replace c14 := Bool.eq_false_iff.mpr c14
                subst c14
                have H1 : (pannierref10_truth.l0 k1 a0 l1 false (wrap64 (x6_1 + 1))) = some (r1, r2, r3, r4) := by rw [if_neg (show ¬ (false = true) by decide)] at H; exact H
                clear H
                have H := H1
                clear H1
                have H' := Aside0.mk H
                clear H
                have p345 : 0 ≤ (x6_1 : Int) := of_decide_eq_true (by first | (with_reducible assumption) | assumption)
                have q345 : x6_1 < (l1.length : Int) := of_decide_eq_true (by first | (with_reducible assumption) | assumption)
                obtain ⟨ad345, e345, hx345_0, hx345_1, hx345_2⟩ := at_T26 HR1.out x6_1 p345 q345
                cases e345
                replace hx345_0 := (HB.out.cell (World.block_lt_of_cell? w _ hx345_0)).trans hx345_0
                replace hx345_1 := (HB.out.cell (World.block_lt_of_cell? w _ hx345_1)).trans hx345_1
                replace hx345_2 := (HB.out.cell (World.block_lt_of_cell? w _ hx345_2)).trans hx345_2
                replace p345 := eq_true p345
                replace q345 := eq_true q345
                go_wp2_with (first | ((with_reducible refine gate_callee (f := 57) rfl ?_); refine goesL_ (some 20) rfl rfl Tryz.func57 (by kernel_rfl) rfl #[.agg #[.int .i64 ((rd_T26 l1 x6_1).f0), .int .i64 ((rd_T26 l1 x6_1).f1), .string ((rd_T26 l1 x6_1).f2)]] rfl (by (try simp only [List.map_toArray, List.map_cons, List.map_nil]); first | done | rfl | (simp only [List.length_drop, List.length_take]; rfl)) ?_; (with_reducible refine (pannierref03_Flag.calls ((rd_T26 l1 x6_1).f0) ((rd_T26 l1 x6_1).f1) ((rd_T26 l1 x6_1).f2) t346 t347 t348 t349 t350 t351 _ A6.out).mono ?_); rintro e w19 ⟨rfl, hb⟩; refine ⟨_, rfl, ?_⟩; have n0_ := Aside0.mk (blk_below (g := gb340) (o := .cells #[.int .i64 x341000_1, .int .i64 x341001_1, .string x341002_1, .bool x341003_1] 30 (0, 0)) (zB BK340.out) hb); have n1_ := Aside0.mk (below_step (by repeat first | with_reducible exact HB.out | refine zS ?_ | refine below_set ?_ GE340.out | exact HB.out) hb); clear BK340; clear HB; have BK340 := n0_; have HB := n1_; clear n0_ n1_; (try clear hb); (try clear hb2); (try clear hk); (try clear hi)) | ((with_reducible refine gate_dst (N := 7) rfl ?_); refine box_event ?hg (N := 7) ?hd (cs := #[.int .i64 0, .bool false, .string (⟨#[]⟩ : ByteArray), .int .i64 0, .int .i64 0, .string (⟨#[]⟩ : ByteArray)]) (t := 69) ?hr ?_; (case hd => rfl); (case hg => rfl); (case hr => first | (go_simp; done) | (go_simp; rfl)); intro gb352 hg w20 hbox hb; have n0_ := Aside0.mk (blk_below (g := gb340) (o := .cells #[.int .i64 x341000_1, .int .i64 x341001_1, .string x341002_1, .bool x341003_1] 30 (0, 0)) (zB BK340.out) hb); have n1_ := Aside0.mk (below_step (by repeat first | with_reducible exact HB.out | refine zS ?_ | refine below_set ?_ GE340.out | exact HB.out) hb); have n2_ := Aside0.mk (hbox); have n3_ := Aside0.mk ((by rw [hg]; exact (below_size (by repeat first | with_reducible exact HB.out | refine zS ?_ | refine below_set ?_ GE340.out | exact HB.out)) : w.heap.size ≤ gb352)); have n4_ := n3_; have n5_ := Aside0.mk ((by rw [hg]; exact Nat.ne_of_lt (blk_lt (g := gb340) (o := .cells #[.int .i64 x341000_1, .int .i64 x341001_1, .string x341002_1, .bool x341003_1] 30 (0, 0)) (zB BK340.out)) : gb340 ≠ gb352)); have n6_ := Aside0.mk ((by rw [hg]; exact Nat.ne_of_gt (blk_lt (g := gb340) (o := .cells #[.int .i64 x341000_1, .int .i64 x341001_1, .string x341002_1, .bool x341003_1] 30 (0, 0)) (zB BK340.out)) : gb352 ≠ gb340)); clear BK340; clear HB; have BK340 := n0_; have HB := n1_; have BK352 := n2_; have GW352 := n3_; have GE352 := n4_; have NB340_352 := n5_; have NB352_340 := n6_; clear n0_ n1_ n2_ n3_ n4_ n5_ n6_; clear hb hbox hg; have hnb21 := NB352_340.out; have hnc21 := NB340_352.out; obtain ⟨hcz22_0, hcz22_1, hcz22_2, hcz22_3, hcz22_4, hcz22_5, hfz22_0, hfz22_1, hfz22_2, hfz22_3, hfz22_4, hfz22_5⟩ := zC6 BK352.out))
                go_roundg k1
                case measure => have := HK1.out; omega
                case rel => exact ⟨(false), (wrap64 (x6_1 + 1)), (x341000_1), (x341001_1), (x341002_1), (x341003_1), (by first | rfl | (simp; done) | (simp [*]; done)), (by first | rfl | (simp; done) | (simp [*]; done)), H', ⟨by have := HK1.out; omega⟩, ⟨by refine zB (blk_far ?_ NB340_352.out _); refine zB ?_; refine blk_far ?_ NB340_352.out _; refine zB (blk_far ?_ NB340_352.out _); refine zB ?_; refine blk_far ?_ NB340_352.out _; refine zB (blk_far ?_ NB340_352.out _); refine zB (blk_far ?_ NB340_352.out _); refine zB ?_; exact BK340.out⟩, ⟨by repeat first | with_reducible exact HB.out | refine zS ?_ | refine below_set ?_ GE340.out | refine below_set ?_ GE352.out | exact HB.out⟩⟩
            · rw [if_neg c13] at H
              have c13b0 : (a0.toList == ([65, 78, 68] : List UInt8)) = false := beq_eq_false_iff_ne.mpr c13
              have c13b1 : (a0.toList != ([65, 78, 68] : List UInt8)) = true := bne_iff_ne.mpr c13
              by_cases c23 : x5_1 = true
              · subst c23
                have H1 : (pannierref10_truth.l0 k1 a0 l1 true (wrap64 (x6_1 + 1))) = some (r1, r2, r3, r4) := by rw [if_pos rfl] at H; exact H
                clear H
                have H := H1
                clear H1
                have H' := Aside0.mk H
                clear H
                have p345 : 0 ≤ (x6_1 : Int) := of_decide_eq_true (by first | (with_reducible assumption) | assumption)
                have q345 : x6_1 < (l1.length : Int) := of_decide_eq_true (by first | (with_reducible assumption) | assumption)
                obtain ⟨ad345, e345, hx345_0, hx345_1, hx345_2⟩ := at_T26 HR1.out x6_1 p345 q345
                cases e345
                replace hx345_0 := (HB.out.cell (World.block_lt_of_cell? w _ hx345_0)).trans hx345_0
                replace hx345_1 := (HB.out.cell (World.block_lt_of_cell? w _ hx345_1)).trans hx345_1
                replace hx345_2 := (HB.out.cell (World.block_lt_of_cell? w _ hx345_2)).trans hx345_2
                replace p345 := eq_true p345
                replace q345 := eq_true q345
                go_wp2_with (first | ((with_reducible refine gate_callee (f := 57) rfl ?_); refine goesL_ (some 20) rfl rfl Tryz.func57 (by kernel_rfl) rfl #[.agg #[.int .i64 ((rd_T26 l1 x6_1).f0), .int .i64 ((rd_T26 l1 x6_1).f1), .string ((rd_T26 l1 x6_1).f2)]] rfl (by (try simp only [List.map_toArray, List.map_cons, List.map_nil]); first | done | rfl | (simp only [List.length_drop, List.length_take]; rfl)) ?_; (with_reducible refine (pannierref03_Flag.calls ((rd_T26 l1 x6_1).f0) ((rd_T26 l1 x6_1).f1) ((rd_T26 l1 x6_1).f2) t346 t347 t348 t349 t350 t351 _ A6.out).mono ?_); rintro e w24 ⟨rfl, hb⟩; refine ⟨_, rfl, ?_⟩; have n0_ := Aside0.mk (blk_below (g := gb340) (o := .cells #[.int .i64 x341000_1, .int .i64 x341001_1, .string x341002_1, .bool x341003_1] 30 (0, 0)) (zB BK340.out) hb); have n1_ := Aside0.mk (below_step (by repeat first | with_reducible exact HB.out | refine zS ?_ | refine below_set ?_ GE340.out | exact HB.out) hb); clear BK340; clear HB; have BK340 := n0_; have HB := n1_; clear n0_ n1_; (try clear hb); (try clear hb2); (try clear hk); (try clear hi)) | ((with_reducible refine gate_dst (N := 7) rfl ?_); refine box_event ?hg (N := 7) ?hd (cs := #[.int .i64 0, .bool false, .string (⟨#[]⟩ : ByteArray), .int .i64 0, .int .i64 0, .string (⟨#[]⟩ : ByteArray)]) (t := 69) ?hr ?_; (case hd => rfl); (case hg => rfl); (case hr => first | (go_simp; done) | (go_simp; rfl)); intro gb352 hg w25 hbox hb; have n0_ := Aside0.mk (blk_below (g := gb340) (o := .cells #[.int .i64 x341000_1, .int .i64 x341001_1, .string x341002_1, .bool x341003_1] 30 (0, 0)) (zB BK340.out) hb); have n1_ := Aside0.mk (below_step (by repeat first | with_reducible exact HB.out | refine zS ?_ | refine below_set ?_ GE340.out | exact HB.out) hb); have n2_ := Aside0.mk (hbox); have n3_ := Aside0.mk ((by rw [hg]; exact (below_size (by repeat first | with_reducible exact HB.out | refine zS ?_ | refine below_set ?_ GE340.out | exact HB.out)) : w.heap.size ≤ gb352)); have n4_ := n3_; have n5_ := Aside0.mk ((by rw [hg]; exact Nat.ne_of_lt (blk_lt (g := gb340) (o := .cells #[.int .i64 x341000_1, .int .i64 x341001_1, .string x341002_1, .bool x341003_1] 30 (0, 0)) (zB BK340.out)) : gb340 ≠ gb352)); have n6_ := Aside0.mk ((by rw [hg]; exact Nat.ne_of_gt (blk_lt (g := gb340) (o := .cells #[.int .i64 x341000_1, .int .i64 x341001_1, .string x341002_1, .bool x341003_1] 30 (0, 0)) (zB BK340.out)) : gb352 ≠ gb340)); clear BK340; clear HB; have BK340 := n0_; have HB := n1_; have BK352 := n2_; have GW352 := n3_; have GE352 := n4_; have NB340_352 := n5_; have NB352_340 := n6_; clear n0_ n1_ n2_ n3_ n4_ n5_ n6_; clear hb hbox hg; have hnb26 := NB352_340.out; have hnc26 := NB340_352.out; obtain ⟨hcz27_0, hcz27_1, hcz27_2, hcz27_3, hcz27_4, hcz27_5, hfz27_0, hfz27_1, hfz27_2, hfz27_3, hfz27_4, hfz27_5⟩ := zC6 BK352.out))
                go_roundg k1
                case measure => have := HK1.out; omega
                case rel => exact ⟨(true), (wrap64 (x6_1 + 1)), (x341000_1), (x341001_1), (x341002_1), (x341003_1), (by first | rfl | (simp; done) | (simp [*]; done)), (by first | rfl | (simp; done) | (simp [*]; done)), H', ⟨by have := HK1.out; omega⟩, ⟨by refine zB (blk_far ?_ NB340_352.out _); refine zB ?_; refine blk_far ?_ NB340_352.out _; refine zB (blk_far ?_ NB340_352.out _); refine zB ?_; refine blk_far ?_ NB340_352.out _; refine zB (blk_far ?_ NB340_352.out _); refine zB (blk_far ?_ NB340_352.out _); refine zB ?_; exact BK340.out⟩, ⟨by repeat first | with_reducible exact HB.out | refine zS ?_ | refine below_set ?_ GE340.out | refine below_set ?_ GE352.out | exact HB.out⟩⟩
              · replace c23 := Bool.eq_false_iff.mpr c23
                subst c23
                have H1 : (pannierref10_truth.l0 k1 a0 l1 t347 (wrap64 (x6_1 + 1))) = some (r1, r2, r3, r4) := by rw [if_neg (show ¬ (false = true) by decide)] at H; exact H
                clear H
                have H := H1
                clear H1
                have H' := Aside0.mk H
                clear H
                have p345 : 0 ≤ (x6_1 : Int) := of_decide_eq_true (by first | (with_reducible assumption) | assumption)
                have q345 : x6_1 < (l1.length : Int) := of_decide_eq_true (by first | (with_reducible assumption) | assumption)
                obtain ⟨ad345, e345, hx345_0, hx345_1, hx345_2⟩ := at_T26 HR1.out x6_1 p345 q345
                cases e345
                replace hx345_0 := (HB.out.cell (World.block_lt_of_cell? w _ hx345_0)).trans hx345_0
                replace hx345_1 := (HB.out.cell (World.block_lt_of_cell? w _ hx345_1)).trans hx345_1
                replace hx345_2 := (HB.out.cell (World.block_lt_of_cell? w _ hx345_2)).trans hx345_2
                replace p345 := eq_true p345
                replace q345 := eq_true q345
                go_wp2_with (first | ((with_reducible refine gate_callee (f := 57) rfl ?_); refine goesL_ (some 20) rfl rfl Tryz.func57 (by kernel_rfl) rfl #[.agg #[.int .i64 ((rd_T26 l1 x6_1).f0), .int .i64 ((rd_T26 l1 x6_1).f1), .string ((rd_T26 l1 x6_1).f2)]] rfl (by (try simp only [List.map_toArray, List.map_cons, List.map_nil]); first | done | rfl | (simp only [List.length_drop, List.length_take]; rfl)) ?_; (with_reducible refine (pannierref03_Flag.calls ((rd_T26 l1 x6_1).f0) ((rd_T26 l1 x6_1).f1) ((rd_T26 l1 x6_1).f2) t346 t347 t348 t349 t350 t351 _ A6.out).mono ?_); rintro e w28 ⟨rfl, hb⟩; refine ⟨_, rfl, ?_⟩; have n0_ := Aside0.mk (blk_below (g := gb340) (o := .cells #[.int .i64 x341000_1, .int .i64 x341001_1, .string x341002_1, .bool x341003_1] 30 (0, 0)) (zB BK340.out) hb); have n1_ := Aside0.mk (below_step (by repeat first | with_reducible exact HB.out | refine zS ?_ | refine below_set ?_ GE340.out | exact HB.out) hb); clear BK340; clear HB; have BK340 := n0_; have HB := n1_; clear n0_ n1_; (try clear hb); (try clear hb2); (try clear hk); (try clear hi)) | ((with_reducible refine gate_dst (N := 7) rfl ?_); refine box_event ?hg (N := 7) ?hd (cs := #[.int .i64 0, .bool false, .string (⟨#[]⟩ : ByteArray), .int .i64 0, .int .i64 0, .string (⟨#[]⟩ : ByteArray)]) (t := 69) ?hr ?_; (case hd => rfl); (case hg => rfl); (case hr => first | (go_simp; done) | (go_simp; rfl)); intro gb352 hg w29 hbox hb; have n0_ := Aside0.mk (blk_below (g := gb340) (o := .cells #[.int .i64 x341000_1, .int .i64 x341001_1, .string x341002_1, .bool x341003_1] 30 (0, 0)) (zB BK340.out) hb); have n1_ := Aside0.mk (below_step (by repeat first | with_reducible exact HB.out | refine zS ?_ | refine below_set ?_ GE340.out | exact HB.out) hb); have n2_ := Aside0.mk (hbox); have n3_ := Aside0.mk ((by rw [hg]; exact (below_size (by repeat first | with_reducible exact HB.out | refine zS ?_ | refine below_set ?_ GE340.out | exact HB.out)) : w.heap.size ≤ gb352)); have n4_ := n3_; have n5_ := Aside0.mk ((by rw [hg]; exact Nat.ne_of_lt (blk_lt (g := gb340) (o := .cells #[.int .i64 x341000_1, .int .i64 x341001_1, .string x341002_1, .bool x341003_1] 30 (0, 0)) (zB BK340.out)) : gb340 ≠ gb352)); have n6_ := Aside0.mk ((by rw [hg]; exact Nat.ne_of_gt (blk_lt (g := gb340) (o := .cells #[.int .i64 x341000_1, .int .i64 x341001_1, .string x341002_1, .bool x341003_1] 30 (0, 0)) (zB BK340.out)) : gb352 ≠ gb340)); clear BK340; clear HB; have BK340 := n0_; have HB := n1_; have BK352 := n2_; have GW352 := n3_; have GE352 := n4_; have NB340_352 := n5_; have NB352_340 := n6_; clear n0_ n1_ n2_ n3_ n4_ n5_ n6_; clear hb hbox hg; have hnb30 := NB352_340.out; have hnc30 := NB340_352.out; obtain ⟨hcz31_0, hcz31_1, hcz31_2, hcz31_3, hcz31_4, hcz31_5, hfz31_0, hfz31_1, hfz31_2, hfz31_3, hfz31_4, hfz31_5⟩ := zC6 BK352.out))
                go_roundg k1
                case measure => have := HK1.out; omega
                case rel => exact ⟨(t347), (wrap64 (x6_1 + 1)), (x341000_1), (x341001_1), (x341002_1), (x341003_1), (by first | rfl | (simp; done) | (simp [*]; done)), (by first | rfl | (simp; done) | (simp [*]; done)), H', ⟨by have := HK1.out; omega⟩, ⟨by refine zB (blk_far ?_ NB340_352.out _); refine zB ?_; refine blk_far ?_ NB340_352.out _; refine zB (blk_far ?_ NB340_352.out _); refine zB ?_; refine blk_far ?_ NB340_352.out _; refine zB (blk_far ?_ NB340_352.out _); refine zB (blk_far ?_ NB340_352.out _); refine zB ?_; exact BK340.out⟩, ⟨by repeat first | with_reducible exact HB.out | refine zS ?_ | refine below_set ?_ GE340.out | refine below_set ?_ GE352.out | exact HB.out⟩⟩
        · rw [if_neg c5] at H
          exact absurd H (by simp)
      · rw [if_neg c4] at H
        have c4b0 : decide (x6_1 < (l1.length : Int)) = false := decide_eq_false c4
        clear c4
        replace H := Option.bind_eq_some_iff.mp H
        obtain ⟨⟨t341, t342, t343, t344⟩, A320, H⟩ := H
        replace H : (some (t341, t342, t343, t344)) = some (r1, r2, r3, r4) := H
        have A32 := Aside0.mk A320
        clear A320
        simp only [Option.some.injEq, Prod.mk.injEq] at H
        obtain ⟨rfl, rfl, rfl, rfl⟩ := H
        go_wp2_with (first | ((with_reducible refine gate_callee (f := 58) rfl ?_); refine goesL_ (some 41) rfl rfl Tryz.func58 (by kernel_rfl) rfl #[.bool x5_1] rfl (by (try simp only [List.map_toArray, List.map_cons, List.map_nil]); first | done | rfl | (simp only [List.length_drop, List.length_take]; rfl)) ?_; (with_reducible refine (pannierref10_flag.calls x5_1 t341 t342 t343 t344 _ A32.out).mono ?_); rintro e w33 ⟨rfl, hb⟩; refine ⟨_, rfl, ?_⟩; have n0_ := Aside0.mk (blk_below (g := gb340) (o := .cells #[.int .i64 x341000_1, .int .i64 x341001_1, .string x341002_1, .bool x341003_1] 30 (0, 0)) (zB BK340.out) hb); have n1_ := Aside0.mk (below_step (by repeat first | with_reducible exact HB.out | refine zS ?_ | refine below_set ?_ GE340.out | exact HB.out) hb); clear BK340; clear HB; have BK340 := n0_; have HB := n1_; clear n0_ n1_; (try clear hb); (try clear hb2); (try clear hk); (try clear hi); obtain ⟨hcz34_0, hcz34_1, hcz34_2, hcz34_3, hfz34_0, hfz34_1, hfz34_2, hfz34_3⟩ := zC4 BK340.out))
        refine bodyPost_ret (results_cell_row rfl _ _ gb340 30 #[.int .i64 t341, .int .i64 t342, .string t343, .bool t344] (0, 0) _ rfl (by refine zB ?_; refine blk_put (cs := #[.int .i64 t341, .int .i64 t342, .string t343, .bool x341003_1]) ?_ 3 _ rfl; refine zB ?_; refine blk_put (cs := #[.int .i64 t341, .int .i64 t342, .string x341002_1, .bool x341003_1]) ?_ 2 _ rfl; refine zB ?_; refine blk_put (cs := #[.int .i64 t341, .int .i64 x341001_1, .string x341002_1, .bool x341003_1]) ?_ 1 _ rfl; refine zB ?_; refine blk_put (cs := #[.int .i64 x341000_1, .int .i64 x341001_1, .string x341002_1, .bool x341003_1]) ?_ 0 _ rfl; refine zB ?_; exact BK340.out) Tryz.underlying30 rfl (by kernel_rfl)) rfl ?_
        exact ⟨by first | rfl | (simp [errW_none, errW_some] <;> rfl) | (simp [*, errW_none, errW_some] <;> rfl), by repeat first | with_reducible exact HB.out | refine zS ?_ | refine below_set ?_ GE340.out | exact HB.out⟩
end Go.Proofs.YtmdmpafdpgdpoaaGreatDoor.P

namespace Go.Proofs.YtmdmpafdpgdpoaaGreatDoor.P
open Go.RowKit Go.Proofs.YtmdmpafdpgdpoaaGreatDoorW.PrintWords Go.Proofs.YtmdmpafdpgdpoaaGreatDoorW.PrintLast Go.Proofs.YtmdmpafdpgdpoaaGreatDoorW.PrintMore
attribute [local go_sem] max2_int min2_int max_two min_two max_three min_three max_four min_four   -- for this text's walks alone
set_option linter.unusedVariables false
set_option linter.unusedSimpArgs false
def pannierref03_Show.f (k : Nat) (a0_0 : Int) (a0_1 : Int) (a0_2 : ByteArray) : Option (ByteArray) := (pannierref03_Good.f a0_0 a0_1 a0_2).bind fun t354 => (if t354 = true then (if a0_0 = 1 then (if a0_1 = 1 then (some (⟨#[84, 82, 85, 69]⟩ : ByteArray)) else (some (⟨#[70, 65, 76, 83, 69]⟩ : ByteArray))) else (if a0_0 = 2 then ((pannierref01_Dec.f k a0_1).bind fun t355 => (some t355)) else (if a0_0 = 3 then (some a0_2) else (if a0_0 = 4 then ((some (([(⟨#[35, 68, 73, 86]⟩ : ByteArray), (⟨#[35, 79, 86, 69, 82]⟩ : ByteArray), (⟨#[35, 84, 89, 80, 69]⟩ : ByteArray), (⟨#[35, 82, 69, 70]⟩ : ByteArray), (⟨#[35, 65, 82, 71]⟩ : ByteArray), (⟨#[35, 76, 79, 79, 80]⟩ : ByteArray), (⟨#[35, 76, 79, 78, 71]⟩ : ByteArray), (⟨#[35, 78, 79, 78, 69]⟩ : ByteArray)] : List ByteArray) : List ByteArray)).bind fun y356 => (if 0 ≤ (wrap64 (a0_1 - 1)) then (if (wrap64 (a0_1 - 1)) < (y356.length : Int) then (some (rdOf ByteArray.empty y356 (wrap64 (a0_1 - 1)))) else (none)) else (none))) else (some (⟨#[]⟩ : ByteArray)))))) else (some (⟨#[63]⟩ : ByteArray)))
set_option maxHeartbeats 8000000 in
set_option maxRecDepth 100000 in
theorem pannierref03_Show.calls (k : Nat) (a0_0 : Int) (a0_1 : Int) (a0_2 : ByteArray) (r : ByteArray) (w : World) (h : pannierref03_Show.f k a0_0 a0_1 a0_2 = some r) :
    Calls Tryz.prog 72 #[.agg #[.int .i64 a0_0, .int .i64 a0_1, .string a0_2]] w fun e w' => e = .returned (.string r) ∧ Below w.heap.size w w' := by
  have hu26 := Tryz.underlying26
  have HB := Aside0.mk (Below.refl w.heap.size w)
  have H : ((pannierref03_Good.f a0_0 a0_1 a0_2).bind fun t354 => (if t354 = true then (if a0_0 = 1 then (if a0_1 = 1 then (some (⟨#[84, 82, 85, 69]⟩ : ByteArray)) else (some (⟨#[70, 65, 76, 83, 69]⟩ : ByteArray))) else (if a0_0 = 2 then ((pannierref01_Dec.f k a0_1).bind fun t355 => (some t355)) else (if a0_0 = 3 then (some a0_2) else (if a0_0 = 4 then ((some (([(⟨#[35, 68, 73, 86]⟩ : ByteArray), (⟨#[35, 79, 86, 69, 82]⟩ : ByteArray), (⟨#[35, 84, 89, 80, 69]⟩ : ByteArray), (⟨#[35, 82, 69, 70]⟩ : ByteArray), (⟨#[35, 65, 82, 71]⟩ : ByteArray), (⟨#[35, 76, 79, 79, 80]⟩ : ByteArray), (⟨#[35, 76, 79, 78, 71]⟩ : ByteArray), (⟨#[35, 78, 79, 78, 69]⟩ : ByteArray)] : List ByteArray) : List ByteArray)).bind fun y356 => (if 0 ≤ (wrap64 (a0_1 - 1)) then (if (wrap64 (a0_1 - 1)) < (y356.length : Int) then (some (rdOf ByteArray.empty y356 (wrap64 (a0_1 - 1)))) else (none)) else (none))) else (some (⟨#[]⟩ : ByteArray)))))) else (some (⟨#[63]⟩ : ByteArray)))) = some r := h
  clear h
  replace H := Option.bind_eq_some_iff.mp H
  obtain ⟨t354, A20, H⟩ := H
  replace H : (if t354 = true then (if a0_0 = 1 then (if a0_1 = 1 then (some (⟨#[84, 82, 85, 69]⟩ : ByteArray)) else (some (⟨#[70, 65, 76, 83, 69]⟩ : ByteArray))) else (if a0_0 = 2 then ((pannierref01_Dec.f k a0_1).bind fun t355 => (some t355)) else (if a0_0 = 3 then (some a0_2) else (if a0_0 = 4 then ((some (([(⟨#[35, 68, 73, 86]⟩ : ByteArray), (⟨#[35, 79, 86, 69, 82]⟩ : ByteArray), (⟨#[35, 84, 89, 80, 69]⟩ : ByteArray), (⟨#[35, 82, 69, 70]⟩ : ByteArray), (⟨#[35, 65, 82, 71]⟩ : ByteArray), (⟨#[35, 76, 79, 79, 80]⟩ : ByteArray), (⟨#[35, 76, 79, 78, 71]⟩ : ByteArray), (⟨#[35, 78, 79, 78, 69]⟩ : ByteArray)] : List ByteArray) : List ByteArray)).bind fun y356 => (if 0 ≤ (wrap64 (a0_1 - 1)) then (if (wrap64 (a0_1 - 1)) < (y356.length : Int) then (some (rdOf ByteArray.empty y356 (wrap64 (a0_1 - 1)))) else (none)) else (none))) else (some (⟨#[]⟩ : ByteArray)))))) else (some (⟨#[63]⟩ : ByteArray))) = some r := H
  have A2 := Aside0.mk A20
  clear A20
  by_cases c3 : t354 = true
  · subst c3
    have H1 : (if a0_0 = 1 then (if a0_1 = 1 then (some (⟨#[84, 82, 85, 69]⟩ : ByteArray)) else (some (⟨#[70, 65, 76, 83, 69]⟩ : ByteArray))) else (if a0_0 = 2 then ((pannierref01_Dec.f k a0_1).bind fun t355 => (some t355)) else (if a0_0 = 3 then (some a0_2) else (if a0_0 = 4 then ((some (([(⟨#[35, 68, 73, 86]⟩ : ByteArray), (⟨#[35, 79, 86, 69, 82]⟩ : ByteArray), (⟨#[35, 84, 89, 80, 69]⟩ : ByteArray), (⟨#[35, 82, 69, 70]⟩ : ByteArray), (⟨#[35, 65, 82, 71]⟩ : ByteArray), (⟨#[35, 76, 79, 79, 80]⟩ : ByteArray), (⟨#[35, 76, 79, 78, 71]⟩ : ByteArray), (⟨#[35, 78, 79, 78, 69]⟩ : ByteArray)] : List ByteArray) : List ByteArray)).bind fun y356 => (if 0 ≤ (wrap64 (a0_1 - 1)) then (if (wrap64 (a0_1 - 1)) < (y356.length : Int) then (some (rdOf ByteArray.empty y356 (wrap64 (a0_1 - 1)))) else (none)) else (none))) else (some (⟨#[]⟩ : ByteArray)))))) = some r := by rw [if_pos rfl] at H; exact H
    clear H
    have H := H1
    clear H1
    by_cases c4 : a0_0 = 1
    · rw [if_pos c4] at H
      have c4b0 : (a0_0 == 1) = true := beq_iff_eq.mpr c4
      have c4b1 : (a0_0 != 1) = false := bne_eq_false_iff_eq.mpr c4
      clear c4
      by_cases c5 : a0_1 = 1
      · rw [if_pos c5] at H
        have c5b0 : (a0_1 == 1) = true := beq_iff_eq.mpr c5
        have c5b1 : (a0_1 != 1) = false := bne_eq_false_iff_eq.mpr c5
        clear c5
        obtain rfl := Option.some.inj H
        go_enter Tryz.func72, Tryz.ntmps72
        go_wp2_with (first | ((with_reducible refine gate_dst (N := 1) rfl ?_); refine box_event ?hg (N := 1) ?hd (cs := #[.int .i64 a0_0, .int .i64 a0_1, .string a0_2]) (t := 26) ?hr ?_; (case hd => rfl); (case hg => rfl); (case hr => first | (go_simp; done) | (go_simp; rfl)); intro gb353 hg w6 hbox hb; have n0_ := Aside0.mk (below_step (by repeat first | with_reducible exact HB.out | refine zS ?_ | exact HB.out) hb); have n1_ := Aside0.mk (hbox); have n2_ := Aside0.mk ((by rw [hg]; exact (below_size (by repeat first | with_reducible exact HB.out | refine zS ?_ | exact HB.out)) : w.heap.size ≤ gb353)); have n3_ := n2_; clear HB; have HB := n0_; have BK353 := n1_; have GW353 := n2_; have GE353 := n3_; clear n0_ n1_ n2_ n3_; clear hb hbox hg; obtain ⟨hcz7_0, hcz7_1, hcz7_2, hfz7_0, hfz7_1, hfz7_2⟩ := zC3 BK353.out) | ((with_reducible refine gate_callee (f := 66) rfl ?_); refine goesL_ (some 4) rfl rfl Tryz.func66 (by kernel_rfl) rfl #[.agg #[.int .i64 a0_0, .int .i64 a0_1, .string a0_2]] rfl (by (try simp only [List.map_toArray, List.map_cons, List.map_nil]); first | done | rfl | (simp only [List.length_drop, List.length_take]; rfl)) ?_; (with_reducible refine (pannierref03_Good.calls a0_0 a0_1 a0_2 true _ A2.out).mono ?_); rintro e w8 ⟨rfl, hb⟩; refine ⟨_, rfl, ?_⟩; have n0_ := Aside0.mk (blk_below (g := gb353) (o := .cells #[.int .i64 a0_0, .int .i64 a0_1, .string a0_2] 26 (0, 0)) (zB BK353.out) hb); have n1_ := Aside0.mk (below_step (by repeat first | with_reducible exact HB.out | refine zS ?_ | refine below_set ?_ GE353.out | exact HB.out) hb); clear BK353; clear HB; have BK353 := n0_; have HB := n1_; clear n0_ n1_; (try clear hb); (try clear hb2); (try clear hk); (try clear hi); obtain ⟨hcz9_0, hcz9_1, hcz9_2, hfz9_0, hfz9_1, hfz9_2⟩ := zC3 BK353.out))
        go_ret
        exact ⟨by first | rfl | (simp [errW_none, errW_some] <;> rfl) | (simp [*, errW_none, errW_some] <;> rfl), by repeat first | with_reducible exact HB.out | refine zS ?_ | refine below_set ?_ GE353.out | exact HB.out⟩
      · rw [if_neg c5] at H
        have c5b0 : (a0_1 == 1) = false := beq_eq_false_iff_ne.mpr c5
        have c5b1 : (a0_1 != 1) = true := bne_iff_ne.mpr c5
        obtain rfl := Option.some.inj H
        go_enter Tryz.func72, Tryz.ntmps72
        go_wp2_with (first | ((with_reducible refine gate_dst (N := 1) rfl ?_); refine box_event ?hg (N := 1) ?hd (cs := #[.int .i64 a0_0, .int .i64 a0_1, .string a0_2]) (t := 26) ?hr ?_; (case hd => rfl); (case hg => rfl); (case hr => first | (go_simp; done) | (go_simp; rfl)); intro gb353 hg w10 hbox hb; have n0_ := Aside0.mk (below_step (by repeat first | with_reducible exact HB.out | refine zS ?_ | exact HB.out) hb); have n1_ := Aside0.mk (hbox); have n2_ := Aside0.mk ((by rw [hg]; exact (below_size (by repeat first | with_reducible exact HB.out | refine zS ?_ | exact HB.out)) : w.heap.size ≤ gb353)); have n3_ := n2_; clear HB; have HB := n0_; have BK353 := n1_; have GW353 := n2_; have GE353 := n3_; clear n0_ n1_ n2_ n3_; clear hb hbox hg; obtain ⟨hcz11_0, hcz11_1, hcz11_2, hfz11_0, hfz11_1, hfz11_2⟩ := zC3 BK353.out) | ((with_reducible refine gate_callee (f := 66) rfl ?_); refine goesL_ (some 4) rfl rfl Tryz.func66 (by kernel_rfl) rfl #[.agg #[.int .i64 a0_0, .int .i64 a0_1, .string a0_2]] rfl (by (try simp only [List.map_toArray, List.map_cons, List.map_nil]); first | done | rfl | (simp only [List.length_drop, List.length_take]; rfl)) ?_; (with_reducible refine (pannierref03_Good.calls a0_0 a0_1 a0_2 true _ A2.out).mono ?_); rintro e w12 ⟨rfl, hb⟩; refine ⟨_, rfl, ?_⟩; have n0_ := Aside0.mk (blk_below (g := gb353) (o := .cells #[.int .i64 a0_0, .int .i64 a0_1, .string a0_2] 26 (0, 0)) (zB BK353.out) hb); have n1_ := Aside0.mk (below_step (by repeat first | with_reducible exact HB.out | refine zS ?_ | refine below_set ?_ GE353.out | exact HB.out) hb); clear BK353; clear HB; have BK353 := n0_; have HB := n1_; clear n0_ n1_; (try clear hb); (try clear hb2); (try clear hk); (try clear hi); obtain ⟨hcz13_0, hcz13_1, hcz13_2, hfz13_0, hfz13_1, hfz13_2⟩ := zC3 BK353.out))
        go_ret
        exact ⟨by first | rfl | (simp [errW_none, errW_some] <;> rfl) | (simp [*, errW_none, errW_some] <;> rfl), by repeat first | with_reducible exact HB.out | refine zS ?_ | refine below_set ?_ GE353.out | exact HB.out⟩
    · rw [if_neg c4] at H
      have c4b0 : (a0_0 == 1) = false := beq_eq_false_iff_ne.mpr c4
      have c4b1 : (a0_0 != 1) = true := bne_iff_ne.mpr c4
      by_cases c14 : a0_0 = 2
      · rw [if_pos c14] at H
        have c14b0 : (a0_0 == 2) = true := beq_iff_eq.mpr c14
        have c14b1 : (a0_0 != 2) = false := bne_eq_false_iff_eq.mpr c14
        clear c14
        replace H := Option.bind_eq_some_iff.mp H
        obtain ⟨t355, A150, H⟩ := H
        replace H : (some t355) = some r := H
        have A15 := Aside0.mk A150
        clear A150
        obtain rfl := Option.some.inj H
        go_enter Tryz.func72, Tryz.ntmps72
        go_wp2_with (first | ((with_reducible refine gate_dst (N := 1) rfl ?_); refine box_event ?hg (N := 1) ?hd (cs := #[.int .i64 a0_0, .int .i64 a0_1, .string a0_2]) (t := 26) ?hr ?_; (case hd => rfl); (case hg => rfl); (case hr => first | (go_simp; done) | (go_simp; rfl)); intro gb353 hg w16 hbox hb; have n0_ := Aside0.mk (below_step (by repeat first | with_reducible exact HB.out | refine zS ?_ | exact HB.out) hb); have n1_ := Aside0.mk (hbox); have n2_ := Aside0.mk ((by rw [hg]; exact (below_size (by repeat first | with_reducible exact HB.out | refine zS ?_ | exact HB.out)) : w.heap.size ≤ gb353)); have n3_ := n2_; clear HB; have HB := n0_; have BK353 := n1_; have GW353 := n2_; have GE353 := n3_; clear n0_ n1_ n2_ n3_; clear hb hbox hg; obtain ⟨hcz17_0, hcz17_1, hcz17_2, hfz17_0, hfz17_1, hfz17_2⟩ := zC3 BK353.out) | ((with_reducible refine gate_callee (f := 66) rfl ?_); refine goesL_ (some 4) rfl rfl Tryz.func66 (by kernel_rfl) rfl #[.agg #[.int .i64 a0_0, .int .i64 a0_1, .string a0_2]] rfl (by (try simp only [List.map_toArray, List.map_cons, List.map_nil]); first | done | rfl | (simp only [List.length_drop, List.length_take]; rfl)) ?_; (with_reducible refine (pannierref03_Good.calls a0_0 a0_1 a0_2 true _ A2.out).mono ?_); rintro e w18 ⟨rfl, hb⟩; refine ⟨_, rfl, ?_⟩; have n0_ := Aside0.mk (blk_below (g := gb353) (o := .cells #[.int .i64 a0_0, .int .i64 a0_1, .string a0_2] 26 (0, 0)) (zB BK353.out) hb); have n1_ := Aside0.mk (below_step (by repeat first | with_reducible exact HB.out | refine zS ?_ | refine below_set ?_ GE353.out | exact HB.out) hb); clear BK353; clear HB; have BK353 := n0_; have HB := n1_; clear n0_ n1_; (try clear hb); (try clear hb2); (try clear hk); (try clear hi); obtain ⟨hcz19_0, hcz19_1, hcz19_2, hfz19_0, hfz19_1, hfz19_2⟩ := zC3 BK353.out) | ((with_reducible refine gate_callee (f := 78) rfl ?_); refine goesL_ (some 17) rfl rfl Tryz.func78 (by kernel_rfl) rfl #[.int .i64 a0_1] rfl (by (try simp only [List.map_toArray, List.map_cons, List.map_nil]); first | done | rfl | (simp only [List.length_drop, List.length_take]; rfl)) ?_; (with_reducible refine (pannierref01_Dec.calls k a0_1 t355 _ A15.out).mono ?_); rintro e w' ⟨rfl, ⟨nd, rfl⟩⟩; refine ⟨_, rfl, ?_⟩))
        go_ret
        exact ⟨by first | rfl | (simp [errW_none, errW_some] <;> rfl) | (simp [*, errW_none, errW_some] <;> rfl), by repeat first | with_reducible exact HB.out | refine zS ?_ | refine below_set ?_ GE353.out | exact HB.out⟩
      · rw [if_neg c14] at H
        have c14b0 : (a0_0 == 2) = false := beq_eq_false_iff_ne.mpr c14
        have c14b1 : (a0_0 != 2) = true := bne_iff_ne.mpr c14
        by_cases c20 : a0_0 = 3
        · rw [if_pos c20] at H
          have c20b0 : (a0_0 == 3) = true := beq_iff_eq.mpr c20
          have c20b1 : (a0_0 != 3) = false := bne_eq_false_iff_eq.mpr c20
          clear c20
          obtain rfl := Option.some.inj H
          go_enter Tryz.func72, Tryz.ntmps72
          go_wp2_with (first | ((with_reducible refine gate_dst (N := 1) rfl ?_); refine box_event ?hg (N := 1) ?hd (cs := #[.int .i64 a0_0, .int .i64 a0_1, .string a0_2]) (t := 26) ?hr ?_; (case hd => rfl); (case hg => rfl); (case hr => first | (go_simp; done) | (go_simp; rfl)); intro gb353 hg w21 hbox hb; have n0_ := Aside0.mk (below_step (by repeat first | with_reducible exact HB.out | refine zS ?_ | exact HB.out) hb); have n1_ := Aside0.mk (hbox); have n2_ := Aside0.mk ((by rw [hg]; exact (below_size (by repeat first | with_reducible exact HB.out | refine zS ?_ | exact HB.out)) : w.heap.size ≤ gb353)); have n3_ := n2_; clear HB; have HB := n0_; have BK353 := n1_; have GW353 := n2_; have GE353 := n3_; clear n0_ n1_ n2_ n3_; clear hb hbox hg; obtain ⟨hcz22_0, hcz22_1, hcz22_2, hfz22_0, hfz22_1, hfz22_2⟩ := zC3 BK353.out) | ((with_reducible refine gate_callee (f := 66) rfl ?_); refine goesL_ (some 4) rfl rfl Tryz.func66 (by kernel_rfl) rfl #[.agg #[.int .i64 a0_0, .int .i64 a0_1, .string a0_2]] rfl (by (try simp only [List.map_toArray, List.map_cons, List.map_nil]); first | done | rfl | (simp only [List.length_drop, List.length_take]; rfl)) ?_; (with_reducible refine (pannierref03_Good.calls a0_0 a0_1 a0_2 true _ A2.out).mono ?_); rintro e w23 ⟨rfl, hb⟩; refine ⟨_, rfl, ?_⟩; have n0_ := Aside0.mk (blk_below (g := gb353) (o := .cells #[.int .i64 a0_0, .int .i64 a0_1, .string a0_2] 26 (0, 0)) (zB BK353.out) hb); have n1_ := Aside0.mk (below_step (by repeat first | with_reducible exact HB.out | refine zS ?_ | refine below_set ?_ GE353.out | exact HB.out) hb); clear BK353; clear HB; have BK353 := n0_; have HB := n1_; clear n0_ n1_; (try clear hb); (try clear hb2); (try clear hk); (try clear hi); obtain ⟨hcz24_0, hcz24_1, hcz24_2, hfz24_0, hfz24_1, hfz24_2⟩ := zC3 BK353.out))
          go_ret
          exact ⟨by first | rfl | (simp [errW_none, errW_some] <;> rfl) | (simp [*, errW_none, errW_some] <;> rfl), by repeat first | with_reducible exact HB.out | refine zS ?_ | refine below_set ?_ GE353.out | exact HB.out⟩
        · rw [if_neg c20] at H
          have c20b0 : (a0_0 == 3) = false := beq_eq_false_iff_ne.mpr c20
          have c20b1 : (a0_0 != 3) = true := bne_iff_ne.mpr c20
          by_cases c25 : a0_0 = 4
          · rw [if_pos c25] at H
            have c25b0 : (a0_0 == 4) = true := beq_iff_eq.mpr c25
            have c25b1 : (a0_0 != 4) = false := bne_eq_false_iff_eq.mpr c25
            clear c25
            obtain ⟨y356, hy356⟩ : ∃ y_ : List ByteArray, y_ = (([(⟨#[35, 68, 73, 86]⟩ : ByteArray), (⟨#[35, 79, 86, 69, 82]⟩ : ByteArray), (⟨#[35, 84, 89, 80, 69]⟩ : ByteArray), (⟨#[35, 82, 69, 70]⟩ : ByteArray), (⟨#[35, 65, 82, 71]⟩ : ByteArray), (⟨#[35, 76, 79, 79, 80]⟩ : ByteArray), (⟨#[35, 76, 79, 78, 71]⟩ : ByteArray), (⟨#[35, 78, 79, 78, 69]⟩ : ByteArray)] : List ByteArray)) := ⟨_, rfl⟩
            replace H : (if 0 ≤ (wrap64 (a0_1 - 1)) then (if (wrap64 (a0_1 - 1)) < (y356.length : Int) then (some (rdOf ByteArray.empty y356 (wrap64 (a0_1 - 1)))) else (none)) else (none)) = some r := by first | (rw [hy356]; with_reducible exact H) | (have H2_ := (Option.bind_some _ _).symm.trans H; rw [hy356]; with_reducible exact H2_) | (have H2_ := (Option.bind_some _ _).symm.trans H; with_reducible exact H2_) | with_reducible exact H | (rw [hy356]; exact H) | exact H
            have Ny356 := Aside0.mk hy356
            clear hy356
            obtain ⟨ji26, hji26⟩ : ∃ j_ : Int, (wrap64 (a0_1 - 1)) = j_ := ⟨_, rfl⟩
            replace H : (if 0 ≤ (ji26) then (if (ji26) < (y356.length : Int) then (some (rdOf ByteArray.empty y356 (ji26))) else (none)) else (none)) = some r := by first | (rw [hji26] at H; exact H) | (simp only [hji26] at H ⊢; exact H)
            (try rw [hji26] at A2)
            have hji26w : (IntKind.i64.wrap (a0_1 - 1)) = ji26 := (i64_w _).trans hji26
            by_cases c27 : 0 ≤ (ji26)
            · rw [if_pos c27] at H
              have c27b0 : decide (0 ≤ (ji26)) = true := decide_eq_true c27
              clear c27
              by_cases c28 : (ji26) < (y356.length : Int)
              · rw [if_pos c28] at H
                have c28b0 : decide ((ji26) < (y356.length : Int)) = true := decide_eq_true c28
                clear c28
                obtain rfl := Option.some.inj H
                go_enter Tryz.func72, Tryz.ntmps72
                go_wp2_with (first | ((with_reducible refine gate_dst (N := 1) rfl ?_); refine box_event ?hg (N := 1) ?hd (cs := #[.int .i64 a0_0, .int .i64 a0_1, .string a0_2]) (t := 26) ?hr ?_; (case hd => rfl); (case hg => rfl); (case hr => first | (go_simp; done) | (go_simp; rfl)); intro gb353 hg w29 hbox hb; have n0_ := Aside0.mk (below_step (by repeat first | with_reducible exact HB.out | refine zS ?_ | exact HB.out) hb); have n1_ := Aside0.mk (hbox); have n2_ := Aside0.mk ((by rw [hg]; exact (below_size (by repeat first | with_reducible exact HB.out | refine zS ?_ | exact HB.out)) : w.heap.size ≤ gb353)); have n3_ := n2_; clear HB; have HB := n0_; have BK353 := n1_; have GW353 := n2_; have GE353 := n3_; clear n0_ n1_ n2_ n3_; clear hb hbox hg; obtain ⟨hcz30_0, hcz30_1, hcz30_2, hfz30_0, hfz30_1, hfz30_2⟩ := zC3 BK353.out) | ((with_reducible refine gate_callee (f := 66) rfl ?_); refine goesL_ (some 4) rfl rfl Tryz.func66 (by kernel_rfl) rfl #[.agg #[.int .i64 a0_0, .int .i64 a0_1, .string a0_2]] rfl (by (try simp only [List.map_toArray, List.map_cons, List.map_nil]); first | done | rfl | (simp only [List.length_drop, List.length_take]; rfl)) ?_; (with_reducible refine (pannierref03_Good.calls a0_0 a0_1 a0_2 true _ A2.out).mono ?_); rintro e w31 ⟨rfl, hb⟩; refine ⟨_, rfl, ?_⟩; have n0_ := Aside0.mk (blk_below (g := gb353) (o := .cells #[.int .i64 a0_0, .int .i64 a0_1, .string a0_2] 26 (0, 0)) (zB BK353.out) hb); have n1_ := Aside0.mk (below_step (by repeat first | with_reducible exact HB.out | refine zS ?_ | refine below_set ?_ GE353.out | exact HB.out) hb); clear BK353; clear HB; have BK353 := n0_; have HB := n1_; clear n0_ n1_; (try clear hb); (try clear hb2); (try clear hk); (try clear hi); obtain ⟨hcz32_0, hcz32_1, hcz32_2, hfz32_0, hfz32_1, hfz32_2⟩ := zC3 BK353.out) | ((with_reducible refine gate_dst (N := 24) rfl ?_); refine Kd.R_lit Kd.string _ 9 ?hg (N := 24) ?hd (xs := ([(⟨#[35, 68, 73, 86]⟩ : ByteArray), (⟨#[35, 79, 86, 69, 82]⟩ : ByteArray), (⟨#[35, 84, 89, 80, 69]⟩ : ByteArray), (⟨#[35, 82, 69, 70]⟩ : ByteArray), (⟨#[35, 65, 82, 71]⟩ : ByteArray), (⟨#[35, 76, 79, 79, 80]⟩ : ByteArray), (⟨#[35, 76, 79, 78, 71]⟩ : ByteArray), (⟨#[35, 78, 79, 78, 69]⟩ : ByteArray)] : List ByteArray)) (inner := [.string (⟨#[35, 68, 73, 86]⟩ : ByteArray), .string (⟨#[35, 79, 86, 69, 82]⟩ : ByteArray), .string (⟨#[35, 84, 89, 80, 69]⟩ : ByteArray), .string (⟨#[35, 82, 69, 70]⟩ : ByteArray), .string (⟨#[35, 65, 82, 71]⟩ : ByteArray), .string (⟨#[35, 76, 79, 79, 80]⟩ : ByteArray), .string (⟨#[35, 76, 79, 78, 71]⟩ : ByteArray), .string (⟨#[35, 78, 79, 78, 69]⟩ : ByteArray)]) (ok := fun _ => True) (okp := fun _ => True) ?hr ?hp (fun _ hk => hk) trivial (Below.refl _ _) (Nat.le_refl _) (by simp) ?_; (case hd => rfl); (case hg => rfl); (case hr => first | (go_simp; done) | (go_simp; rfl)); (case hp => exact (Reps.one (show Kd.M Kd.string _ _ _ (⟨#[35, 68, 73, 86]⟩ : ByteArray) [.string (⟨#[35, 68, 73, 86]⟩ : ByteArray)] from rfl) (Reps.one (show Kd.M Kd.string _ _ _ (⟨#[35, 79, 86, 69, 82]⟩ : ByteArray) [.string (⟨#[35, 79, 86, 69, 82]⟩ : ByteArray)] from rfl) (Reps.one (show Kd.M Kd.string _ _ _ (⟨#[35, 84, 89, 80, 69]⟩ : ByteArray) [.string (⟨#[35, 84, 89, 80, 69]⟩ : ByteArray)] from rfl) (Reps.one (show Kd.M Kd.string _ _ _ (⟨#[35, 82, 69, 70]⟩ : ByteArray) [.string (⟨#[35, 82, 69, 70]⟩ : ByteArray)] from rfl) (Reps.one (show Kd.M Kd.string _ _ _ (⟨#[35, 65, 82, 71]⟩ : ByteArray) [.string (⟨#[35, 65, 82, 71]⟩ : ByteArray)] from rfl) (Reps.one (show Kd.M Kd.string _ _ _ (⟨#[35, 76, 79, 79, 80]⟩ : ByteArray) [.string (⟨#[35, 76, 79, 79, 80]⟩ : ByteArray)] from rfl) (Reps.one (show Kd.M Kd.string _ _ _ (⟨#[35, 76, 79, 78, 71]⟩ : ByteArray) [.string (⟨#[35, 76, 79, 78, 71]⟩ : ByteArray)] from rfl) (Reps.one (show Kd.M Kd.string _ _ _ (⟨#[35, 78, 79, 78, 69]⟩ : ByteArray) [.string (⟨#[35, 78, 79, 78, 69]⟩ : ByteArray)] from rfl) (Reps.none _ _)))))))))); intro v357 w33 ho34 hb hg_ hnew_; clear hg_ hnew_; (first | rw [← Ny356.out] at ho34 | (simp only [Int.reduceToNat] at ho34; rw [← Ny356.out] at ho34)); have n0_ := Aside0.mk (Kd.R_lower ho34 (below_size (by repeat first | with_reducible exact HB.out | refine zS ?_ | refine below_set ?_ GE353.out | exact HB.out))); have n1_ := Aside0.mk (blk_below (g := gb353) (o := .cells #[.int .i64 a0_0, .int .i64 a0_1, .string a0_2] 26 (0, 0)) (zB BK353.out) hb); have n2_ := Aside0.mk (below_step (by repeat first | with_reducible exact HB.out | refine zS ?_ | refine below_set ?_ GE353.out | exact HB.out) hb); clear BK353; clear HB; have HO358 := n0_; have BK353 := n1_; have HB := n2_; clear n0_ n1_ n2_; clear hb ho34; obtain ⟨hcz35_0, hcz35_1, hcz35_2, hfz35_0, hfz35_1, hfz35_2⟩ := zC3 BK353.out; obtain ⟨Ao36, co36, eo36⟩ := Kd.R_slice HO358.out; subst eo36; have p359 : 0 ≤ ((ji26) : Int) := of_decide_eq_true (by first | (with_reducible assumption) | assumption); have q359 : (ji26) < (y356.length : Int) := of_decide_eq_true (by first | (with_reducible assumption) | assumption); obtain ⟨ad359, e359, hx359_0⟩ := Kd.at_string (Kd.R_reads' HO358.out).2.2 (ji26) p359 q359; cases e359; replace p359 := eq_true p359; replace q359 := eq_true q359))
                go_ret
                exact ⟨by first | rfl | (simp [errW_none, errW_some] <;> rfl) | (simp only [← hji26]; first | rfl | (simp [errW_none, errW_some] <;> rfl)) | (simp [*, errW_none, errW_some] <;> rfl), by repeat first | with_reducible exact HB.out | refine zS ?_ | refine below_set ?_ GE353.out | exact HB.out⟩
              · rw [if_neg c28] at H
                exact absurd H (by simp)
            · rw [if_neg c27] at H
              exact absurd H (by simp)
          · rw [if_neg c25] at H
            have c25b0 : (a0_0 == 4) = false := beq_eq_false_iff_ne.mpr c25
            have c25b1 : (a0_0 != 4) = true := bne_iff_ne.mpr c25
            obtain rfl := Option.some.inj H
            go_enter Tryz.func72, Tryz.ntmps72
            go_wp2_with (first | ((with_reducible refine gate_dst (N := 1) rfl ?_); refine box_event ?hg (N := 1) ?hd (cs := #[.int .i64 a0_0, .int .i64 a0_1, .string a0_2]) (t := 26) ?hr ?_; (case hd => rfl); (case hg => rfl); (case hr => first | (go_simp; done) | (go_simp; rfl)); intro gb353 hg w37 hbox hb; have n0_ := Aside0.mk (below_step (by repeat first | with_reducible exact HB.out | refine zS ?_ | exact HB.out) hb); have n1_ := Aside0.mk (hbox); have n2_ := Aside0.mk ((by rw [hg]; exact (below_size (by repeat first | with_reducible exact HB.out | refine zS ?_ | exact HB.out)) : w.heap.size ≤ gb353)); have n3_ := n2_; clear HB; have HB := n0_; have BK353 := n1_; have GW353 := n2_; have GE353 := n3_; clear n0_ n1_ n2_ n3_; clear hb hbox hg; obtain ⟨hcz38_0, hcz38_1, hcz38_2, hfz38_0, hfz38_1, hfz38_2⟩ := zC3 BK353.out) | ((with_reducible refine gate_callee (f := 66) rfl ?_); refine goesL_ (some 4) rfl rfl Tryz.func66 (by kernel_rfl) rfl #[.agg #[.int .i64 a0_0, .int .i64 a0_1, .string a0_2]] rfl (by (try simp only [List.map_toArray, List.map_cons, List.map_nil]); first | done | rfl | (simp only [List.length_drop, List.length_take]; rfl)) ?_; (with_reducible refine (pannierref03_Good.calls a0_0 a0_1 a0_2 true _ A2.out).mono ?_); rintro e w39 ⟨rfl, hb⟩; refine ⟨_, rfl, ?_⟩; have n0_ := Aside0.mk (blk_below (g := gb353) (o := .cells #[.int .i64 a0_0, .int .i64 a0_1, .string a0_2] 26 (0, 0)) (zB BK353.out) hb); have n1_ := Aside0.mk (below_step (by repeat first | with_reducible exact HB.out | refine zS ?_ | refine below_set ?_ GE353.out | exact HB.out) hb); clear BK353; clear HB; have BK353 := n0_; have HB := n1_; clear n0_ n1_; (try clear hb); (try clear hb2); (try clear hk); (try clear hi); obtain ⟨hcz40_0, hcz40_1, hcz40_2, hfz40_0, hfz40_1, hfz40_2⟩ := zC3 BK353.out))
            go_ret
            exact ⟨by first | rfl | (simp [errW_none, errW_some] <;> rfl) | (simp [*, errW_none, errW_some] <;> rfl), by repeat first | with_reducible exact HB.out | refine zS ?_ | refine below_set ?_ GE353.out | exact HB.out⟩
  · replace c3 := Bool.eq_false_iff.mpr c3
    subst c3
    have H1 : (some (⟨#[63]⟩ : ByteArray)) = some r := by rw [if_neg (show ¬ (false = true) by decide)] at H; exact H
    clear H
    have H := H1
    clear H1
    obtain rfl := Option.some.inj H
    go_enter Tryz.func72, Tryz.ntmps72
    go_wp2_with (first | ((with_reducible refine gate_dst (N := 1) rfl ?_); refine box_event ?hg (N := 1) ?hd (cs := #[.int .i64 a0_0, .int .i64 a0_1, .string a0_2]) (t := 26) ?hr ?_; (case hd => rfl); (case hg => rfl); (case hr => first | (go_simp; done) | (go_simp; rfl)); intro gb353 hg w41 hbox hb; have n0_ := Aside0.mk (below_step (by repeat first | with_reducible exact HB.out | refine zS ?_ | exact HB.out) hb); have n1_ := Aside0.mk (hbox); have n2_ := Aside0.mk ((by rw [hg]; exact (below_size (by repeat first | with_reducible exact HB.out | refine zS ?_ | exact HB.out)) : w.heap.size ≤ gb353)); have n3_ := n2_; clear HB; have HB := n0_; have BK353 := n1_; have GW353 := n2_; have GE353 := n3_; clear n0_ n1_ n2_ n3_; clear hb hbox hg; obtain ⟨hcz42_0, hcz42_1, hcz42_2, hfz42_0, hfz42_1, hfz42_2⟩ := zC3 BK353.out) | ((with_reducible refine gate_callee (f := 66) rfl ?_); refine goesL_ (some 4) rfl rfl Tryz.func66 (by kernel_rfl) rfl #[.agg #[.int .i64 a0_0, .int .i64 a0_1, .string a0_2]] rfl (by (try simp only [List.map_toArray, List.map_cons, List.map_nil]); first | done | rfl | (simp only [List.length_drop, List.length_take]; rfl)) ?_; (with_reducible refine (pannierref03_Good.calls a0_0 a0_1 a0_2 false _ A2.out).mono ?_); rintro e w43 ⟨rfl, hb⟩; refine ⟨_, rfl, ?_⟩; have n0_ := Aside0.mk (blk_below (g := gb353) (o := .cells #[.int .i64 a0_0, .int .i64 a0_1, .string a0_2] 26 (0, 0)) (zB BK353.out) hb); have n1_ := Aside0.mk (below_step (by repeat first | with_reducible exact HB.out | refine zS ?_ | refine below_set ?_ GE353.out | exact HB.out) hb); clear BK353; clear HB; have BK353 := n0_; have HB := n1_; clear n0_ n1_; (try clear hb); (try clear hb2); (try clear hk); (try clear hi)))
    go_ret
    exact ⟨by first | rfl | (simp [errW_none, errW_some] <;> rfl) | (simp [*, errW_none, errW_some] <;> rfl), by repeat first | with_reducible exact HB.out | refine zS ?_ | refine below_set ?_ GE353.out | exact HB.out⟩
end Go.Proofs.YtmdmpafdpgdpoaaGreatDoor.P

namespace Go.Proofs.YtmdmpafdpgdpoaaGreatDoor.P
open Go.RowKit Go.Proofs.YtmdmpafdpgdpoaaGreatDoorW.PrintWords Go.Proofs.YtmdmpafdpgdpoaaGreatDoorW.PrintLast Go.Proofs.YtmdmpafdpgdpoaaGreatDoorW.PrintMore
attribute [local go_sem] max2_int min2_int max_two min_two max_three min_three max_four min_four   -- for this text's walks alone
set_option linter.unusedVariables false
set_option linter.unusedSimpArgs false
def pannierref03_Str.f (k : Nat) (a0_0 : Int) (a0_1 : Int) (a0_2 : ByteArray) : Option (Int × Bool × ByteArray × Int × Int × ByteArray) := (pannierref03_Good.f a0_0 a0_1 a0_2).bind fun t362 => (if t362 = true then (if a0_0 = 4 then (some (0, false, (⟨#[]⟩ : ByteArray), a0_0, a0_1, a0_2)) else ((pannierref03_Show.f k a0_0 a0_1 a0_2).bind fun t363 => (some (0, false, t363, 0, 0, (⟨#[]⟩ : ByteArray))))) else ((pannierref03_Fail.f 3).bind fun bt364 => (some (0, false, (⟨#[]⟩ : ByteArray), bt364.1, bt364.2.1, bt364.2.2))))
set_option maxHeartbeats 8000000 in
set_option maxRecDepth 100000 in
theorem pannierref03_Str.calls (k : Nat) (a0_0 : Int) (a0_1 : Int) (a0_2 : ByteArray) (r1 : Int) (r2 : Bool) (r3 : ByteArray) (r4 : Int) (r5 : Int) (r6 : ByteArray) (w : World) (h : pannierref03_Str.f k a0_0 a0_1 a0_2 = some (r1, r2, r3, r4, r5, r6)) :
    Calls Tryz.prog 59 #[.agg #[.int .i64 a0_0, .int .i64 a0_1, .string a0_2]] w fun e w' => e = .returned (.agg #[.int .i64 r1, .bool r2, .string r3, .int .i64 r4, .int .i64 r5, .string r6]) ∧ Below w.heap.size w w' := by
  have hu26 := Tryz.underlying26
  have hu69 := Tryz.underlying69
  have HB := Aside0.mk (Below.refl w.heap.size w)
  have H : ((pannierref03_Good.f a0_0 a0_1 a0_2).bind fun t362 => (if t362 = true then (if a0_0 = 4 then (some (0, false, (⟨#[]⟩ : ByteArray), a0_0, a0_1, a0_2)) else ((pannierref03_Show.f k a0_0 a0_1 a0_2).bind fun t363 => (some (0, false, t363, 0, 0, (⟨#[]⟩ : ByteArray))))) else ((pannierref03_Fail.f 3).bind fun bt364 => (some (0, false, (⟨#[]⟩ : ByteArray), bt364.1, bt364.2.1, bt364.2.2))))) = some (r1, r2, r3, r4, r5, r6) := h
  clear h
  replace H := Option.bind_eq_some_iff.mp H
  obtain ⟨t362, A20, H⟩ := H
  replace H : (if t362 = true then (if a0_0 = 4 then (some (0, false, (⟨#[]⟩ : ByteArray), a0_0, a0_1, a0_2)) else ((pannierref03_Show.f k a0_0 a0_1 a0_2).bind fun t363 => (some (0, false, t363, 0, 0, (⟨#[]⟩ : ByteArray))))) else ((pannierref03_Fail.f 3).bind fun bt364 => (some (0, false, (⟨#[]⟩ : ByteArray), bt364.1, bt364.2.1, bt364.2.2)))) = some (r1, r2, r3, r4, r5, r6) := H
  have A2 := Aside0.mk A20
  clear A20
  by_cases c3 : t362 = true
  · subst c3
    have H1 : (if a0_0 = 4 then (some (0, false, (⟨#[]⟩ : ByteArray), a0_0, a0_1, a0_2)) else ((pannierref03_Show.f k a0_0 a0_1 a0_2).bind fun t363 => (some (0, false, t363, 0, 0, (⟨#[]⟩ : ByteArray))))) = some (r1, r2, r3, r4, r5, r6) := by rw [if_pos rfl] at H; exact H
    clear H
    have H := H1
    clear H1
    by_cases c4 : a0_0 = 4
    · rw [if_pos c4] at H
      have c4b0 : (a0_0 == 4) = true := beq_iff_eq.mpr c4
      have c4b1 : (a0_0 != 4) = false := bne_eq_false_iff_eq.mpr c4
      clear c4
      simp only [Option.some.injEq, Prod.mk.injEq] at H
      obtain ⟨rfl, rfl, rfl, rfl, rfl, rfl⟩ := H
      go_enter Tryz.func59, Tryz.ntmps59
      go_wp2_with (first | ((with_reducible refine gate_dst (N := 1) rfl ?_); refine box_event ?hg (N := 1) ?hd (cs := #[.int .i64 a0_0, .int .i64 a0_1, .string a0_2]) (t := 26) ?hr ?_; (case hd => rfl); (case hg => rfl); (case hr => first | (go_simp; done) | (go_simp; rfl)); intro gb360 hg w5 hbox hb; have n0_ := Aside0.mk (below_step (by repeat first | with_reducible exact HB.out | refine zS ?_ | exact HB.out) hb); have n1_ := Aside0.mk (hbox); have n2_ := Aside0.mk ((by rw [hg]; exact (below_size (by repeat first | with_reducible exact HB.out | refine zS ?_ | exact HB.out)) : w.heap.size ≤ gb360)); have n3_ := n2_; clear HB; have HB := n0_; have BK360 := n1_; have GW360 := n2_; have GE360 := n3_; clear n0_ n1_ n2_ n3_; clear hb hbox hg) | ((with_reducible refine gate_dst (N := 2) rfl ?_); refine box_event ?hg (N := 2) ?hd (cs := #[.int .i64 0, .bool false, .string (⟨#[]⟩ : ByteArray), .int .i64 0, .int .i64 0, .string (⟨#[]⟩ : ByteArray)]) (t := 69) ?hr ?_; (case hd => rfl); (case hg => rfl); (case hr => first | (go_simp; done) | (go_simp; rfl)); intro gb361 hg w6 hbox hb; have n0_ := Aside0.mk (blk_below (g := gb360) (o := .cells #[.int .i64 a0_0, .int .i64 a0_1, .string a0_2] 26 (0, 0)) (zB BK360.out) hb); have n1_ := Aside0.mk (below_step (by repeat first | with_reducible exact HB.out | refine zS ?_ | refine below_set ?_ GE360.out | exact HB.out) hb); have n2_ := Aside0.mk (hbox); have n3_ := Aside0.mk ((by rw [hg]; exact (below_size (by repeat first | with_reducible exact HB.out | refine zS ?_ | refine below_set ?_ GE360.out | exact HB.out)) : w.heap.size ≤ gb361)); have n4_ := n3_; have n5_ := Aside0.mk ((by rw [hg]; exact Nat.ne_of_lt (blk_lt (g := gb360) (o := .cells #[.int .i64 a0_0, .int .i64 a0_1, .string a0_2] 26 (0, 0)) (zB BK360.out)) : gb360 ≠ gb361)); have n6_ := Aside0.mk ((by rw [hg]; exact Nat.ne_of_gt (blk_lt (g := gb360) (o := .cells #[.int .i64 a0_0, .int .i64 a0_1, .string a0_2] 26 (0, 0)) (zB BK360.out)) : gb361 ≠ gb360)); clear BK360; clear HB; have BK360 := n0_; have HB := n1_; have BK361 := n2_; have GW361 := n3_; have GE361 := n4_; have NB360_361 := n5_; have NB361_360 := n6_; clear n0_ n1_ n2_ n3_ n4_ n5_ n6_; clear hb hbox hg; have hnb7 := NB360_361.out; have hnc7 := NB361_360.out; obtain ⟨hcz8_0, hcz8_1, hcz8_2, hfz8_0, hfz8_1, hfz8_2⟩ := zC3 BK360.out) | ((with_reducible refine gate_callee (f := 66) rfl ?_); refine goesL_ (some 4) rfl rfl Tryz.func66 (by kernel_rfl) rfl #[.agg #[.int .i64 a0_0, .int .i64 a0_1, .string a0_2]] rfl (by (try simp only [List.map_toArray, List.map_cons, List.map_nil]); first | done | rfl | (simp only [List.length_drop, List.length_take]; rfl)) ?_; (with_reducible refine (pannierref03_Good.calls a0_0 a0_1 a0_2 true _ A2.out).mono ?_); rintro e w9 ⟨rfl, hb⟩; refine ⟨_, rfl, ?_⟩; have n0_ := Aside0.mk (blk_below (g := gb360) (o := .cells #[.int .i64 a0_0, .int .i64 a0_1, .string a0_2] 26 (0, 0)) (zB BK360.out) hb); have n1_ := Aside0.mk (blk_below (g := gb361) (o := .cells #[.int .i64 0, .bool false, .string (⟨#[]⟩ : ByteArray), .int .i64 0, .int .i64 0, .string (⟨#[]⟩ : ByteArray)] 69 (0, 0)) (zB BK361.out) hb); have n2_ := Aside0.mk (below_step (by repeat first | with_reducible exact HB.out | refine zS ?_ | refine below_set ?_ GE360.out | refine below_set ?_ GE361.out | exact HB.out) hb); clear BK360; clear BK361; clear HB; have BK360 := n0_; have BK361 := n1_; have HB := n2_; clear n0_ n1_ n2_; (try clear hb); (try clear hb2); (try clear hk); (try clear hi); obtain ⟨hcz10_0, hcz10_1, hcz10_2, hfz10_0, hfz10_1, hfz10_2⟩ := zC3 BK360.out; obtain ⟨hcz11_0, hcz11_1, hcz11_2, hcz11_3, hcz11_4, hcz11_5, hfz11_0, hfz11_1, hfz11_2, hfz11_3, hfz11_4, hfz11_5⟩ := zC6 BK361.out))
      refine bodyPost_ret (results_cell_row rfl _ _ gb361 69 #[.int .i64 0, .bool false, .string (⟨#[]⟩ : ByteArray), .int .i64 a0_0, .int .i64 a0_1, .string a0_2] (0, 0) _ rfl (by refine zB ?_; refine blk_put (cs := #[.int .i64 0, .bool false, .string (⟨#[]⟩ : ByteArray), .int .i64 a0_0, .int .i64 a0_1, .string (⟨#[]⟩ : ByteArray)]) ?_ 5 _ rfl; refine zB ?_; refine blk_put (cs := #[.int .i64 0, .bool false, .string (⟨#[]⟩ : ByteArray), .int .i64 a0_0, .int .i64 0, .string (⟨#[]⟩ : ByteArray)]) ?_ 4 _ rfl; refine zB ?_; refine blk_put (cs := #[.int .i64 0, .bool false, .string (⟨#[]⟩ : ByteArray), .int .i64 0, .int .i64 0, .string (⟨#[]⟩ : ByteArray)]) ?_ 3 _ rfl; refine zB ?_; refine blk_put (cs := #[.int .i64 0, .bool false, .string (⟨#[]⟩ : ByteArray), .int .i64 0, .int .i64 0, .string (⟨#[]⟩ : ByteArray)]) ?_ 2 _ rfl; refine zB ?_; refine blk_put (cs := #[.int .i64 0, .bool false, .string (⟨#[]⟩ : ByteArray), .int .i64 0, .int .i64 0, .string (⟨#[]⟩ : ByteArray)]) ?_ 1 _ rfl; refine zB ?_; refine blk_put (cs := #[.int .i64 0, .bool false, .string (⟨#[]⟩ : ByteArray), .int .i64 0, .int .i64 0, .string (⟨#[]⟩ : ByteArray)]) ?_ 0 _ rfl; refine zB ?_; exact BK361.out) Tryz.underlying69 rfl (by kernel_rfl)) rfl ?_
      exact ⟨by first | rfl | (simp [errW_none, errW_some] <;> rfl) | (simp [*, errW_none, errW_some] <;> rfl), by repeat first | with_reducible exact HB.out | refine zS ?_ | refine below_set ?_ GE360.out | refine below_set ?_ GE361.out | exact HB.out⟩
    · rw [if_neg c4] at H
      have c4b0 : (a0_0 == 4) = false := beq_eq_false_iff_ne.mpr c4
      have c4b1 : (a0_0 != 4) = true := bne_iff_ne.mpr c4
      replace H := Option.bind_eq_some_iff.mp H
      obtain ⟨t363, A120, H⟩ := H
      replace H : (some (0, false, t363, 0, 0, (⟨#[]⟩ : ByteArray))) = some (r1, r2, r3, r4, r5, r6) := H
      have A12 := Aside0.mk A120
      clear A120
      simp only [Option.some.injEq, Prod.mk.injEq] at H
      obtain ⟨rfl, rfl, rfl, rfl, rfl, rfl⟩ := H
      go_enter Tryz.func59, Tryz.ntmps59
      go_wp2_with (first | ((with_reducible refine gate_dst (N := 1) rfl ?_); refine box_event ?hg (N := 1) ?hd (cs := #[.int .i64 a0_0, .int .i64 a0_1, .string a0_2]) (t := 26) ?hr ?_; (case hd => rfl); (case hg => rfl); (case hr => first | (go_simp; done) | (go_simp; rfl)); intro gb360 hg w13 hbox hb; have n0_ := Aside0.mk (below_step (by repeat first | with_reducible exact HB.out | refine zS ?_ | exact HB.out) hb); have n1_ := Aside0.mk (hbox); have n2_ := Aside0.mk ((by rw [hg]; exact (below_size (by repeat first | with_reducible exact HB.out | refine zS ?_ | exact HB.out)) : w.heap.size ≤ gb360)); have n3_ := n2_; clear HB; have HB := n0_; have BK360 := n1_; have GW360 := n2_; have GE360 := n3_; clear n0_ n1_ n2_ n3_; clear hb hbox hg) | ((with_reducible refine gate_dst (N := 2) rfl ?_); refine box_event ?hg (N := 2) ?hd (cs := #[.int .i64 0, .bool false, .string (⟨#[]⟩ : ByteArray), .int .i64 0, .int .i64 0, .string (⟨#[]⟩ : ByteArray)]) (t := 69) ?hr ?_; (case hd => rfl); (case hg => rfl); (case hr => first | (go_simp; done) | (go_simp; rfl)); intro gb361 hg w14 hbox hb; have n0_ := Aside0.mk (blk_below (g := gb360) (o := .cells #[.int .i64 a0_0, .int .i64 a0_1, .string a0_2] 26 (0, 0)) (zB BK360.out) hb); have n1_ := Aside0.mk (below_step (by repeat first | with_reducible exact HB.out | refine zS ?_ | refine below_set ?_ GE360.out | exact HB.out) hb); have n2_ := Aside0.mk (hbox); have n3_ := Aside0.mk ((by rw [hg]; exact (below_size (by repeat first | with_reducible exact HB.out | refine zS ?_ | refine below_set ?_ GE360.out | exact HB.out)) : w.heap.size ≤ gb361)); have n4_ := n3_; have n5_ := Aside0.mk ((by rw [hg]; exact Nat.ne_of_lt (blk_lt (g := gb360) (o := .cells #[.int .i64 a0_0, .int .i64 a0_1, .string a0_2] 26 (0, 0)) (zB BK360.out)) : gb360 ≠ gb361)); have n6_ := Aside0.mk ((by rw [hg]; exact Nat.ne_of_gt (blk_lt (g := gb360) (o := .cells #[.int .i64 a0_0, .int .i64 a0_1, .string a0_2] 26 (0, 0)) (zB BK360.out)) : gb361 ≠ gb360)); clear BK360; clear HB; have BK360 := n0_; have HB := n1_; have BK361 := n2_; have GW361 := n3_; have GE361 := n4_; have NB360_361 := n5_; have NB361_360 := n6_; clear n0_ n1_ n2_ n3_ n4_ n5_ n6_; clear hb hbox hg; have hnb15 := NB360_361.out; have hnc15 := NB361_360.out; obtain ⟨hcz16_0, hcz16_1, hcz16_2, hfz16_0, hfz16_1, hfz16_2⟩ := zC3 BK360.out) | ((with_reducible refine gate_callee (f := 66) rfl ?_); refine goesL_ (some 4) rfl rfl Tryz.func66 (by kernel_rfl) rfl #[.agg #[.int .i64 a0_0, .int .i64 a0_1, .string a0_2]] rfl (by (try simp only [List.map_toArray, List.map_cons, List.map_nil]); first | done | rfl | (simp only [List.length_drop, List.length_take]; rfl)) ?_; (with_reducible refine (pannierref03_Good.calls a0_0 a0_1 a0_2 true _ A2.out).mono ?_); rintro e w17 ⟨rfl, hb⟩; refine ⟨_, rfl, ?_⟩; have n0_ := Aside0.mk (blk_below (g := gb360) (o := .cells #[.int .i64 a0_0, .int .i64 a0_1, .string a0_2] 26 (0, 0)) (zB BK360.out) hb); have n1_ := Aside0.mk (blk_below (g := gb361) (o := .cells #[.int .i64 0, .bool false, .string (⟨#[]⟩ : ByteArray), .int .i64 0, .int .i64 0, .string (⟨#[]⟩ : ByteArray)] 69 (0, 0)) (zB BK361.out) hb); have n2_ := Aside0.mk (below_step (by repeat first | with_reducible exact HB.out | refine zS ?_ | refine below_set ?_ GE360.out | refine below_set ?_ GE361.out | exact HB.out) hb); clear BK360; clear BK361; clear HB; have BK360 := n0_; have BK361 := n1_; have HB := n2_; clear n0_ n1_ n2_; (try clear hb); (try clear hb2); (try clear hk); (try clear hi); obtain ⟨hcz18_0, hcz18_1, hcz18_2, hfz18_0, hfz18_1, hfz18_2⟩ := zC3 BK360.out) | ((with_reducible refine gate_callee (f := 72) rfl ?_); refine goesL_ (some 14) rfl rfl Tryz.func72 (by kernel_rfl) rfl #[.agg #[.int .i64 a0_0, .int .i64 a0_1, .string a0_2]] rfl (by (try simp only [List.map_toArray, List.map_cons, List.map_nil]); first | done | rfl | (simp only [List.length_drop, List.length_take]; rfl)) ?_; (with_reducible refine (pannierref03_Show.calls k a0_0 a0_1 a0_2 t363 _ A12.out).mono ?_); rintro e w19 ⟨rfl, hb⟩; refine ⟨_, rfl, ?_⟩; have n0_ := Aside0.mk (blk_below (g := gb360) (o := .cells #[.int .i64 a0_0, .int .i64 a0_1, .string a0_2] 26 (0, 0)) (zB BK360.out) hb); have n1_ := Aside0.mk (blk_below (g := gb361) (o := .cells #[.int .i64 0, .bool false, .string (⟨#[]⟩ : ByteArray), .int .i64 0, .int .i64 0, .string (⟨#[]⟩ : ByteArray)] 69 (0, 0)) (zB BK361.out) hb); have n2_ := Aside0.mk (below_step (by repeat first | with_reducible exact HB.out | refine zS ?_ | refine below_set ?_ GE360.out | refine below_set ?_ GE361.out | exact HB.out) hb); clear BK360; clear BK361; clear HB; have BK360 := n0_; have BK361 := n1_; have HB := n2_; clear n0_ n1_ n2_; (try clear hb); (try clear hb2); (try clear hk); (try clear hi); obtain ⟨hcz20_0, hcz20_1, hcz20_2, hcz20_3, hcz20_4, hcz20_5, hfz20_0, hfz20_1, hfz20_2, hfz20_3, hfz20_4, hfz20_5⟩ := zC6 BK361.out))
      refine bodyPost_ret (results_cell_row rfl _ _ gb361 69 #[.int .i64 0, .bool false, .string t363, .int .i64 0, .int .i64 0, .string (⟨#[]⟩ : ByteArray)] (0, 0) _ rfl (by refine zB ?_; refine blk_put (cs := #[.int .i64 0, .bool false, .string t363, .int .i64 0, .int .i64 0, .string (⟨#[]⟩ : ByteArray)]) ?_ 5 _ rfl; refine zB ?_; refine blk_put (cs := #[.int .i64 0, .bool false, .string t363, .int .i64 0, .int .i64 0, .string (⟨#[]⟩ : ByteArray)]) ?_ 4 _ rfl; refine zB ?_; refine blk_put (cs := #[.int .i64 0, .bool false, .string t363, .int .i64 0, .int .i64 0, .string (⟨#[]⟩ : ByteArray)]) ?_ 3 _ rfl; refine zB ?_; refine blk_put (cs := #[.int .i64 0, .bool false, .string (⟨#[]⟩ : ByteArray), .int .i64 0, .int .i64 0, .string (⟨#[]⟩ : ByteArray)]) ?_ 2 _ rfl; refine zB ?_; refine blk_put (cs := #[.int .i64 0, .bool false, .string (⟨#[]⟩ : ByteArray), .int .i64 0, .int .i64 0, .string (⟨#[]⟩ : ByteArray)]) ?_ 1 _ rfl; refine zB ?_; refine blk_put (cs := #[.int .i64 0, .bool false, .string (⟨#[]⟩ : ByteArray), .int .i64 0, .int .i64 0, .string (⟨#[]⟩ : ByteArray)]) ?_ 0 _ rfl; refine zB ?_; exact BK361.out) Tryz.underlying69 rfl (by kernel_rfl)) rfl ?_
      exact ⟨by first | rfl | (simp [errW_none, errW_some] <;> rfl) | (simp [*, errW_none, errW_some] <;> rfl), by repeat first | with_reducible exact HB.out | refine zS ?_ | refine below_set ?_ GE360.out | refine below_set ?_ GE361.out | exact HB.out⟩
  · replace c3 := Bool.eq_false_iff.mpr c3
    subst c3
    have H1 : ((pannierref03_Fail.f 3).bind fun bt364 => (some (0, false, (⟨#[]⟩ : ByteArray), bt364.1, bt364.2.1, bt364.2.2))) = some (r1, r2, r3, r4, r5, r6) := by rw [if_neg (show ¬ (false = true) by decide)] at H; exact H
    clear H
    have H := H1
    clear H1
    replace H := Option.bind_eq_some_iff.mp H
    obtain ⟨⟨t364, t365, t366⟩, A210, H⟩ := H
    replace H : (some (0, false, (⟨#[]⟩ : ByteArray), t364, t365, t366)) = some (r1, r2, r3, r4, r5, r6) := H
    have A21 := Aside0.mk A210
    clear A210
    simp only [Option.some.injEq, Prod.mk.injEq] at H
    obtain ⟨rfl, rfl, rfl, rfl, rfl, rfl⟩ := H
    go_enter Tryz.func59, Tryz.ntmps59
    go_wp2_with (first | ((with_reducible refine gate_dst (N := 1) rfl ?_); refine box_event ?hg (N := 1) ?hd (cs := #[.int .i64 a0_0, .int .i64 a0_1, .string a0_2]) (t := 26) ?hr ?_; (case hd => rfl); (case hg => rfl); (case hr => first | (go_simp; done) | (go_simp; rfl)); intro gb360 hg w22 hbox hb; have n0_ := Aside0.mk (below_step (by repeat first | with_reducible exact HB.out | refine zS ?_ | exact HB.out) hb); have n1_ := Aside0.mk (hbox); have n2_ := Aside0.mk ((by rw [hg]; exact (below_size (by repeat first | with_reducible exact HB.out | refine zS ?_ | exact HB.out)) : w.heap.size ≤ gb360)); have n3_ := n2_; clear HB; have HB := n0_; have BK360 := n1_; have GW360 := n2_; have GE360 := n3_; clear n0_ n1_ n2_ n3_; clear hb hbox hg) | ((with_reducible refine gate_dst (N := 2) rfl ?_); refine box_event ?hg (N := 2) ?hd (cs := #[.int .i64 0, .bool false, .string (⟨#[]⟩ : ByteArray), .int .i64 0, .int .i64 0, .string (⟨#[]⟩ : ByteArray)]) (t := 69) ?hr ?_; (case hd => rfl); (case hg => rfl); (case hr => first | (go_simp; done) | (go_simp; rfl)); intro gb361 hg w23 hbox hb; have n0_ := Aside0.mk (blk_below (g := gb360) (o := .cells #[.int .i64 a0_0, .int .i64 a0_1, .string a0_2] 26 (0, 0)) (zB BK360.out) hb); have n1_ := Aside0.mk (below_step (by repeat first | with_reducible exact HB.out | refine zS ?_ | refine below_set ?_ GE360.out | exact HB.out) hb); have n2_ := Aside0.mk (hbox); have n3_ := Aside0.mk ((by rw [hg]; exact (below_size (by repeat first | with_reducible exact HB.out | refine zS ?_ | refine below_set ?_ GE360.out | exact HB.out)) : w.heap.size ≤ gb361)); have n4_ := n3_; have n5_ := Aside0.mk ((by rw [hg]; exact Nat.ne_of_lt (blk_lt (g := gb360) (o := .cells #[.int .i64 a0_0, .int .i64 a0_1, .string a0_2] 26 (0, 0)) (zB BK360.out)) : gb360 ≠ gb361)); have n6_ := Aside0.mk ((by rw [hg]; exact Nat.ne_of_gt (blk_lt (g := gb360) (o := .cells #[.int .i64 a0_0, .int .i64 a0_1, .string a0_2] 26 (0, 0)) (zB BK360.out)) : gb361 ≠ gb360)); clear BK360; clear HB; have BK360 := n0_; have HB := n1_; have BK361 := n2_; have GW361 := n3_; have GE361 := n4_; have NB360_361 := n5_; have NB361_360 := n6_; clear n0_ n1_ n2_ n3_ n4_ n5_ n6_; clear hb hbox hg; have hnb24 := NB360_361.out; have hnc24 := NB361_360.out; obtain ⟨hcz25_0, hcz25_1, hcz25_2, hfz25_0, hfz25_1, hfz25_2⟩ := zC3 BK360.out) | ((with_reducible refine gate_callee (f := 66) rfl ?_); refine goesL_ (some 4) rfl rfl Tryz.func66 (by kernel_rfl) rfl #[.agg #[.int .i64 a0_0, .int .i64 a0_1, .string a0_2]] rfl (by (try simp only [List.map_toArray, List.map_cons, List.map_nil]); first | done | rfl | (simp only [List.length_drop, List.length_take]; rfl)) ?_; (with_reducible refine (pannierref03_Good.calls a0_0 a0_1 a0_2 false _ A2.out).mono ?_); rintro e w26 ⟨rfl, hb⟩; refine ⟨_, rfl, ?_⟩; have n0_ := Aside0.mk (blk_below (g := gb360) (o := .cells #[.int .i64 a0_0, .int .i64 a0_1, .string a0_2] 26 (0, 0)) (zB BK360.out) hb); have n1_ := Aside0.mk (blk_below (g := gb361) (o := .cells #[.int .i64 0, .bool false, .string (⟨#[]⟩ : ByteArray), .int .i64 0, .int .i64 0, .string (⟨#[]⟩ : ByteArray)] 69 (0, 0)) (zB BK361.out) hb); have n2_ := Aside0.mk (below_step (by repeat first | with_reducible exact HB.out | refine zS ?_ | refine below_set ?_ GE360.out | refine below_set ?_ GE361.out | exact HB.out) hb); clear BK360; clear BK361; clear HB; have BK360 := n0_; have BK361 := n1_; have HB := n2_; clear n0_ n1_ n2_; (try clear hb); (try clear hb2); (try clear hk); (try clear hi)) | ((with_reducible refine gate_callee (f := 67) rfl ?_); refine goesL_ (some 6) rfl rfl Tryz.func67 (by kernel_rfl) rfl #[.int .i64 3] rfl (by (try simp only [List.map_toArray, List.map_cons, List.map_nil]); first | done | rfl | (simp only [List.length_drop, List.length_take]; rfl)) ?_; (with_reducible refine (pannierref03_Fail.calls 3 t364 t365 t366 _ A21.out).mono ?_); rintro e w27 ⟨rfl, hb⟩; refine ⟨_, rfl, ?_⟩; have n0_ := Aside0.mk (blk_below (g := gb360) (o := .cells #[.int .i64 a0_0, .int .i64 a0_1, .string a0_2] 26 (0, 0)) (zB BK360.out) hb); have n1_ := Aside0.mk (blk_below (g := gb361) (o := .cells #[.int .i64 0, .bool false, .string (⟨#[]⟩ : ByteArray), .int .i64 0, .int .i64 0, .string (⟨#[]⟩ : ByteArray)] 69 (0, 0)) (zB BK361.out) hb); have n2_ := Aside0.mk (below_step (by repeat first | with_reducible exact HB.out | refine zS ?_ | refine below_set ?_ GE360.out | refine below_set ?_ GE361.out | exact HB.out) hb); clear BK360; clear BK361; clear HB; have BK360 := n0_; have BK361 := n1_; have HB := n2_; clear n0_ n1_ n2_; (try clear hb); (try clear hb2); (try clear hk); (try clear hi); obtain ⟨hcz28_0, hcz28_1, hcz28_2, hcz28_3, hcz28_4, hcz28_5, hfz28_0, hfz28_1, hfz28_2, hfz28_3, hfz28_4, hfz28_5⟩ := zC6 BK361.out))
    refine bodyPost_ret (results_cell_row rfl _ _ gb361 69 #[.int .i64 0, .bool false, .string (⟨#[]⟩ : ByteArray), .int .i64 t364, .int .i64 t365, .string t366] (0, 0) _ rfl (by refine zB ?_; refine blk_put (cs := #[.int .i64 0, .bool false, .string (⟨#[]⟩ : ByteArray), .int .i64 t364, .int .i64 t365, .string (⟨#[]⟩ : ByteArray)]) ?_ 5 _ rfl; refine zB ?_; refine blk_put (cs := #[.int .i64 0, .bool false, .string (⟨#[]⟩ : ByteArray), .int .i64 t364, .int .i64 0, .string (⟨#[]⟩ : ByteArray)]) ?_ 4 _ rfl; refine zB ?_; refine blk_put (cs := #[.int .i64 0, .bool false, .string (⟨#[]⟩ : ByteArray), .int .i64 0, .int .i64 0, .string (⟨#[]⟩ : ByteArray)]) ?_ 3 _ rfl; refine zB ?_; refine blk_put (cs := #[.int .i64 0, .bool false, .string (⟨#[]⟩ : ByteArray), .int .i64 0, .int .i64 0, .string (⟨#[]⟩ : ByteArray)]) ?_ 2 _ rfl; refine zB ?_; refine blk_put (cs := #[.int .i64 0, .bool false, .string (⟨#[]⟩ : ByteArray), .int .i64 0, .int .i64 0, .string (⟨#[]⟩ : ByteArray)]) ?_ 1 _ rfl; refine zB ?_; refine blk_put (cs := #[.int .i64 0, .bool false, .string (⟨#[]⟩ : ByteArray), .int .i64 0, .int .i64 0, .string (⟨#[]⟩ : ByteArray)]) ?_ 0 _ rfl; refine zB ?_; exact BK361.out) Tryz.underlying69 rfl (by kernel_rfl)) rfl ?_
    exact ⟨by first | rfl | (simp [errW_none, errW_some] <;> rfl) | (simp [*, errW_none, errW_some] <;> rfl), by repeat first | with_reducible exact HB.out | refine zS ?_ | refine below_set ?_ GE360.out | refine below_set ?_ GE361.out | exact HB.out⟩
end Go.Proofs.YtmdmpafdpgdpoaaGreatDoor.P

namespace Go.Proofs.YtmdmpafdpgdpoaaGreatDoor.P
open Go.RowKit Go.Proofs.YtmdmpafdpgdpoaaGreatDoorW.PrintWords Go.Proofs.YtmdmpafdpgdpoaaGreatDoorW.PrintLast Go.Proofs.YtmdmpafdpgdpoaaGreatDoorW.PrintMore
attribute [local go_sem] max2_int min2_int max_two min_two max_three min_three max_four min_four   -- for this text's walks alone
set_option linter.unusedVariables false
set_option linter.unusedSimpArgs false
def pannierref03_Of.f (a0 : ByteArray) : Option (Int × Int × ByteArray) := if (a0.size : Int) > 200 then ((pannierref03_Fail.f 7).bind fun bt368 => (some (bt368.1, bt368.2.1, bt368.2.2))) else (some (3, 0, a0))
set_option maxHeartbeats 8000000 in
set_option maxRecDepth 100000 in
theorem pannierref03_Of.calls (a0 : ByteArray) (r1 : Int) (r2 : Int) (r3 : ByteArray) (w : World) (h : pannierref03_Of.f a0 = some (r1, r2, r3)) :
    Calls Tryz.prog 61 #[.string a0] w fun e w' => e = .returned (.agg #[.int .i64 r1, .int .i64 r2, .string r3]) ∧ Below w.heap.size w w' := by
  have hu26 := Tryz.underlying26
  have HB := Aside0.mk (Below.refl w.heap.size w)
  have H : (if (a0.size : Int) > 200 then ((pannierref03_Fail.f 7).bind fun bt368 => (some (bt368.1, bt368.2.1, bt368.2.2))) else (some (3, 0, a0))) = some (r1, r2, r3) := h
  clear h
  by_cases c2 : (a0.size : Int) > 200
  · rw [if_pos c2] at H
    have c2b0 : decide (200 < (a0.size : Int)) = true := decide_eq_true c2
    have c2b1 : decide (200 < a0.size) = true := decide_eq_true (by omega)
    clear c2
    replace H := Option.bind_eq_some_iff.mp H
    obtain ⟨⟨t368, t369, t370⟩, A30, H⟩ := H
    replace H : (some (t368, t369, t370)) = some (r1, r2, r3) := H
    have A3 := Aside0.mk A30
    clear A30
    simp only [Option.some.injEq, Prod.mk.injEq] at H
    obtain ⟨rfl, rfl, rfl⟩ := H
    go_enter Tryz.func61, Tryz.ntmps61
    go_wp2_with (first | ((with_reducible refine gate_dst (N := 2) rfl ?_); refine box_event ?hg (N := 2) ?hd (cs := #[.int .i64 0, .int .i64 0, .string (⟨#[]⟩ : ByteArray)]) (t := 26) ?hr ?_; (case hd => rfl); (case hg => rfl); (case hr => first | (go_simp; done) | (go_simp; rfl)); intro gb367 hg w4 hbox hb; have n0_ := Aside0.mk (below_step (by repeat first | with_reducible exact HB.out | refine zS ?_ | exact HB.out) hb); have n1_ := Aside0.mk (hbox); have n2_ := Aside0.mk ((by rw [hg]; exact (below_size (by repeat first | with_reducible exact HB.out | refine zS ?_ | exact HB.out)) : w.heap.size ≤ gb367)); have n3_ := n2_; clear HB; have HB := n0_; have BK367 := n1_; have GW367 := n2_; have GE367 := n3_; clear n0_ n1_ n2_ n3_; clear hb hbox hg) | ((with_reducible refine gate_callee (f := 67) rfl ?_); refine goesL_ (some 6) rfl rfl Tryz.func67 (by kernel_rfl) rfl #[.int .i64 7] rfl (by (try simp only [List.map_toArray, List.map_cons, List.map_nil]); first | done | rfl | (simp only [List.length_drop, List.length_take]; rfl)) ?_; (with_reducible refine (pannierref03_Fail.calls 7 t368 t369 t370 _ A3.out).mono ?_); rintro e w5 ⟨rfl, hb⟩; refine ⟨_, rfl, ?_⟩; have n0_ := Aside0.mk (blk_below (g := gb367) (o := .cells #[.int .i64 0, .int .i64 0, .string (⟨#[]⟩ : ByteArray)] 26 (0, 0)) (zB BK367.out) hb); have n1_ := Aside0.mk (below_step (by repeat first | with_reducible exact HB.out | refine zS ?_ | refine below_set ?_ GE367.out | exact HB.out) hb); clear BK367; clear HB; have BK367 := n0_; have HB := n1_; clear n0_ n1_; (try clear hb); (try clear hb2); (try clear hk); (try clear hi); obtain ⟨hcz6_0, hcz6_1, hcz6_2, hfz6_0, hfz6_1, hfz6_2⟩ := zC3 BK367.out))
    refine bodyPost_ret (results_cell_row rfl _ _ gb367 26 #[.int .i64 t368, .int .i64 t369, .string t370] (0, 0) _ rfl (by refine zB ?_; refine blk_put (cs := #[.int .i64 t368, .int .i64 t369, .string (⟨#[]⟩ : ByteArray)]) ?_ 2 _ rfl; refine zB ?_; refine blk_put (cs := #[.int .i64 t368, .int .i64 0, .string (⟨#[]⟩ : ByteArray)]) ?_ 1 _ rfl; refine zB ?_; refine blk_put (cs := #[.int .i64 0, .int .i64 0, .string (⟨#[]⟩ : ByteArray)]) ?_ 0 _ rfl; refine zB ?_; exact BK367.out) Tryz.underlying26 rfl (by kernel_rfl)) rfl ?_
    exact ⟨by first | rfl | (simp [errW_none, errW_some] <;> rfl) | (simp [*, errW_none, errW_some] <;> rfl), by repeat first | with_reducible exact HB.out | refine zS ?_ | refine below_set ?_ GE367.out | exact HB.out⟩
  · rw [if_neg c2] at H
    have c2b0 : decide (200 < (a0.size : Int)) = false := decide_eq_false c2
    have c2b1 : decide (200 < a0.size) = false := decide_eq_false (by omega)
    clear c2
    simp only [Option.some.injEq, Prod.mk.injEq] at H
    obtain ⟨rfl, rfl, rfl⟩ := H
    go_enter Tryz.func61, Tryz.ntmps61
    go_wp2_with (first | ((with_reducible refine gate_dst (N := 2) rfl ?_); refine box_event ?hg (N := 2) ?hd (cs := #[.int .i64 0, .int .i64 0, .string (⟨#[]⟩ : ByteArray)]) (t := 26) ?hr ?_; (case hd => rfl); (case hg => rfl); (case hr => first | (go_simp; done) | (go_simp; rfl)); intro gb367 hg w7 hbox hb; have n0_ := Aside0.mk (below_step (by repeat first | with_reducible exact HB.out | refine zS ?_ | exact HB.out) hb); have n1_ := Aside0.mk (hbox); have n2_ := Aside0.mk ((by rw [hg]; exact (below_size (by repeat first | with_reducible exact HB.out | refine zS ?_ | exact HB.out)) : w.heap.size ≤ gb367)); have n3_ := n2_; clear HB; have HB := n0_; have BK367 := n1_; have GW367 := n2_; have GE367 := n3_; clear n0_ n1_ n2_ n3_; clear hb hbox hg; obtain ⟨hcz8_0, hcz8_1, hcz8_2, hfz8_0, hfz8_1, hfz8_2⟩ := zC3 BK367.out))
    refine bodyPost_ret (results_cell_row rfl _ _ gb367 26 #[.int .i64 3, .int .i64 0, .string a0] (0, 0) _ rfl (by refine zB ?_; refine blk_put (cs := #[.int .i64 3, .int .i64 0, .string (⟨#[]⟩ : ByteArray)]) ?_ 2 _ rfl; refine zB ?_; refine blk_put (cs := #[.int .i64 3, .int .i64 0, .string (⟨#[]⟩ : ByteArray)]) ?_ 1 _ rfl; refine zB ?_; refine blk_put (cs := #[.int .i64 0, .int .i64 0, .string (⟨#[]⟩ : ByteArray)]) ?_ 0 _ rfl; refine zB ?_; exact BK367.out) Tryz.underlying26 rfl (by kernel_rfl)) rfl ?_
    exact ⟨by first | rfl | (simp [errW_none, errW_some] <;> rfl) | (simp [*, errW_none, errW_some] <;> rfl), by repeat first | with_reducible exact HB.out | refine zS ?_ | refine below_set ?_ GE367.out | exact HB.out⟩
end Go.Proofs.YtmdmpafdpgdpoaaGreatDoor.P

namespace Go.Proofs.YtmdmpafdpgdpoaaGreatDoor.P
open Go.RowKit Go.Proofs.YtmdmpafdpgdpoaaGreatDoorW.PrintWords Go.Proofs.YtmdmpafdpgdpoaaGreatDoorW.PrintLast Go.Proofs.YtmdmpafdpgdpoaaGreatDoorW.PrintMore
attribute [local go_sem] max2_int min2_int max_two min_two max_three min_three max_four min_four   -- for this text's walks alone
set_option linter.unusedVariables false
set_option linter.unusedSimpArgs false
def pannierref09_long.f (a0 : ByteArray) : Option (Bool) := some (decide ((a0.size : Int) > 200))
set_option maxHeartbeats 8000000 in
set_option maxRecDepth 100000 in
theorem pannierref09_long.calls (a0 : ByteArray) (r : Bool) (w : World) (h : pannierref09_long.f a0 = some r) :
    Calls Tryz.prog 73 #[.string a0] w fun e w' => e = .returned (.bool r) ∧ Drawn0 w w' := by
  have H : (some (decide ((a0.size : Int) > 200))) = some r := h
  clear h
  obtain rfl := Option.some.inj H
  go_enter Tryz.func73, Tryz.ntmps73
  go_wp2
  go_ret
  exact ⟨by first | rfl | (simp; done) | (simp [*]; done), by repeat (first | exact Drawn0.refl _ | apply Drawn0.step)⟩
end Go.Proofs.YtmdmpafdpgdpoaaGreatDoor.P

namespace Go.Proofs.YtmdmpafdpgdpoaaGreatDoor.P
open Go.RowKit Go.Proofs.YtmdmpafdpgdpoaaGreatDoorW.PrintWords Go.Proofs.YtmdmpafdpgdpoaaGreatDoorW.PrintLast Go.Proofs.YtmdmpafdpgdpoaaGreatDoorW.PrintMore
attribute [local go_sem] max2_int min2_int max_two min_two max_three min_three max_four min_four   -- for this text's walks alone
set_option linter.unusedVariables false
set_option linter.unusedSimpArgs false
def pannierref09_Join.j0 : Nat → ByteArray → ByteArray → Bool → Option (Int × Int × ByteArray)
  | 0, _, _, _ => none
  | k + 1, x0, x1, x10 => if x10 = true then ((pannierref03_Fail.f 7).bind fun bt374 => (some (bt374.1, bt374.2.1, bt374.2.2))) else (if x0.size + x1.size ≤ 9223372036854775807 then ((pannierref03_Of.f (x0 ++ x1)).bind fun bt377 => (some (bt377.1, bt377.2.1, bt377.2.2))) else (none))
def pannierref09_Join.f (k : Nat) (a0 : ByteArray) (a1 : ByteArray) : Option (Int × Int × ByteArray) := (pannierref09_long.f a0).bind fun t372 => (if t372 = true then (pannierref09_Join.j0 k a0 a1 true) else ((pannierref09_long.f a1).bind fun t373 => (pannierref09_Join.j0 k a0 a1 t373)))
set_option maxHeartbeats 8000000 in
set_option maxRecDepth 100000 in
theorem pannierref09_Join.calls (k : Nat) (a0 : ByteArray) (a1 : ByteArray) (r1 : Int) (r2 : Int) (r3 : ByteArray) (w : World) (h : pannierref09_Join.f k a0 a1 = some (r1, r2, r3)) :
    Calls Tryz.prog 60 #[.string a0, .string a1] w fun e w' => e = .returned (.agg #[.int .i64 r1, .int .i64 r2, .string r3]) ∧ Below w.heap.size w w' := by
  have hu26 := Tryz.underlying26
  have HB := Aside0.mk (Below.refl w.heap.size w)
  have H : ((pannierref09_long.f a0).bind fun t372 => (if t372 = true then (pannierref09_Join.j0 k a0 a1 true) else ((pannierref09_long.f a1).bind fun t373 => (pannierref09_Join.j0 k a0 a1 t373)))) = some (r1, r2, r3) := h
  clear h
  have HC3 := Aside0.mk H
  clear H
  go_enter Tryz.func60, Tryz.ntmps60
  go_upto_region 1 with (first | ((with_reducible refine gate_dst (N := 4) rfl ?_); refine box_event ?hg (N := 4) ?hd (cs := #[.int .i64 0, .int .i64 0, .string (⟨#[]⟩ : ByteArray)]) (t := 26) ?hr ?_; (case hd => rfl); (case hg => rfl); (case hr => first | (go_simp; done) | (go_simp; rfl)); intro gb371 hg w4 hbox hb; have n0_ := Aside0.mk (below_step (by repeat first | with_reducible exact HB.out | refine zS ?_ | exact HB.out) hb); have n1_ := Aside0.mk (hbox); have n2_ := Aside0.mk ((by rw [hg]; exact (below_size (by repeat first | with_reducible exact HB.out | refine zS ?_ | exact HB.out)) : w.heap.size ≤ gb371)); have n3_ := n2_; clear HB; have HB := n0_; have BK371 := n1_; have GW371 := n2_; have GE371 := n3_; clear n0_ n1_ n2_ n3_; clear hb hbox hg))
  (try simp only [Act.put, List.setIfInBounds_toArray, List.set_cons_zero, List.set_cons_succ])
  go_cut [10] (fun v10 wc => ∃ (kq : Nat) (x10_2 : Bool), v10 = .bool x10_2 ∧ Aside0 (pannierref09_Join.j0 kq a0 a1 x10_2 = some (r1, r2, r3)) ∧ Aside0 (kq ≤ k) ∧ Aside0 (wc.heap[gb371]? = some (.cells #[.int .i64 0, .int .i64 0, .string (⟨#[]⟩ : ByteArray)] 26 (0, 0))) ∧ Aside0 (Below w.heap.size w wc))
  case first =>
    have H := HC3.out
    clear HC3
    replace H := Option.bind_eq_some_iff.mp H
    obtain ⟨t372, A50, H⟩ := H
    replace H : (if t372 = true then (pannierref09_Join.j0 k a0 a1 true) else ((pannierref09_long.f a1).bind fun t373 => (pannierref09_Join.j0 k a0 a1 t373))) = some (r1, r2, r3) := H
    have A5 := Aside0.mk A50
    clear A50
    by_cases c6 : t372 = true
    · subst c6
      have H1 : (pannierref09_Join.j0 k a0 a1 true) = some (r1, r2, r3) := by rw [if_pos rfl] at H; exact H
      clear H
      have H := H1
      clear H1
      have H' := Aside0.mk H
      clear H
      go_wp2_with (first | ((with_reducible refine gate_callee (f := 73) rfl ?_); refine goesL_ (some 6) rfl rfl Tryz.func73 (by kernel_rfl) rfl #[.string a0] rfl (by (try simp only [List.map_toArray, List.map_cons, List.map_nil]); first | done | rfl | (simp only [List.length_drop, List.length_take]; rfl)) ?_; (with_reducible refine (pannierref09_long.calls a0 true _ A5.out).mono ?_); rintro e w' ⟨rfl, ⟨nd, rfl⟩⟩; refine ⟨_, rfl, ?_⟩))
      go_meet
      case rel => exact ⟨_, (true), (by first | rfl | (simp; done) | (simp [*]; done)), H', ⟨by first | omega | exact Nat.le_refl _⟩, ⟨by exact zB BK371.out⟩, ⟨by repeat first | with_reducible exact HB.out | refine zS ?_ | refine below_set ?_ GE371.out | exact HB.out⟩⟩
    · replace c6 := Bool.eq_false_iff.mpr c6
      subst c6
      have H1 : ((pannierref09_long.f a1).bind fun t373 => (pannierref09_Join.j0 k a0 a1 t373)) = some (r1, r2, r3) := by rw [if_neg (show ¬ (false = true) by decide)] at H; exact H
      clear H
      have H := H1
      clear H1
      replace H := Option.bind_eq_some_iff.mp H
      obtain ⟨t373, A70, H⟩ := H
      replace H : (pannierref09_Join.j0 k a0 a1 t373) = some (r1, r2, r3) := H
      have A7 := Aside0.mk A70
      clear A70
      have H' := Aside0.mk H
      clear H
      go_wp2_with (first | ((with_reducible refine gate_callee (f := 73) rfl ?_); refine goesL_ (some 6) rfl rfl Tryz.func73 (by kernel_rfl) rfl #[.string a0] rfl (by (try simp only [List.map_toArray, List.map_cons, List.map_nil]); first | done | rfl | (simp only [List.length_drop, List.length_take]; rfl)) ?_; (with_reducible refine (pannierref09_long.calls a0 false _ A5.out).mono ?_); rintro e w' ⟨rfl, ⟨nd, rfl⟩⟩; refine ⟨_, rfl, ?_⟩) | (go_at_call 73; (with_reducible refine (pannierref09_long.calls a1 t373 _ A7.out).mono ?_); rintro e w' ⟨rfl, ⟨nd, rfl⟩⟩))
      go_meet
      case rel => exact ⟨_, (t373), (by first | rfl | (simp; done) | (simp [*]; done)), H', ⟨by first | omega | exact Nat.le_refl _⟩, ⟨by exact zB BK371.out⟩, ⟨by repeat first | with_reducible exact HB.out | refine zS ?_ | refine below_set ?_ GE371.out | exact HB.out⟩⟩
  case rest =>
    clear HC3
    try clear p2
    try clear c6
    try clear c7
    obtain ⟨kq, x10_2, rfl, HA, HJ2, BK371, HB⟩ := hcut
    cases kq with
    | zero => exact absurd HA.out (by simp [pannierref09_Join.j0])
    | succ kj2 =>
      have H := HA.out
      clear HA
      simp only [pannierref09_Join.j0] at H
      by_cases c8 : x10_2 = true
      · subst c8
        have H1 : ((pannierref03_Fail.f 7).bind fun bt374 => (some (bt374.1, bt374.2.1, bt374.2.2))) = some (r1, r2, r3) := by rw [if_pos rfl] at H; exact H
        clear H
        have H := H1
        clear H1
        replace H := Option.bind_eq_some_iff.mp H
        obtain ⟨⟨t374, t375, t376⟩, A90, H⟩ := H
        replace H : (some (t374, t375, t376)) = some (r1, r2, r3) := H
        have A9 := Aside0.mk A90
        clear A90
        simp only [Option.some.injEq, Prod.mk.injEq] at H
        obtain ⟨rfl, rfl, rfl⟩ := H
        go_wp2_with (first | ((with_reducible refine gate_callee (f := 67) rfl ?_); refine goesL_ (some 11) rfl rfl Tryz.func67 (by kernel_rfl) rfl #[.int .i64 7] rfl (by (try simp only [List.map_toArray, List.map_cons, List.map_nil]); first | done | rfl | (simp only [List.length_drop, List.length_take]; rfl)) ?_; (with_reducible refine (pannierref03_Fail.calls 7 t374 t375 t376 _ A9.out).mono ?_); rintro e w10 ⟨rfl, hb⟩; refine ⟨_, rfl, ?_⟩; have n0_ := Aside0.mk (blk_below (g := gb371) (o := .cells #[.int .i64 0, .int .i64 0, .string (⟨#[]⟩ : ByteArray)] 26 (0, 0)) (zB BK371.out) hb); have n1_ := Aside0.mk (below_step (by repeat first | with_reducible exact HB.out | refine zS ?_ | refine below_set ?_ GE371.out | exact HB.out) hb); clear BK371; clear HB; have BK371 := n0_; have HB := n1_; clear n0_ n1_; (try clear hb); (try clear hb2); (try clear hk); (try clear hi); obtain ⟨hcz11_0, hcz11_1, hcz11_2, hfz11_0, hfz11_1, hfz11_2⟩ := zC3 BK371.out))
        refine bodyPost_ret (results_cell_row rfl _ _ gb371 26 #[.int .i64 t374, .int .i64 t375, .string t376] (0, 0) _ rfl (by refine zB ?_; refine blk_put (cs := #[.int .i64 t374, .int .i64 t375, .string (⟨#[]⟩ : ByteArray)]) ?_ 2 _ rfl; refine zB ?_; refine blk_put (cs := #[.int .i64 t374, .int .i64 0, .string (⟨#[]⟩ : ByteArray)]) ?_ 1 _ rfl; refine zB ?_; refine blk_put (cs := #[.int .i64 0, .int .i64 0, .string (⟨#[]⟩ : ByteArray)]) ?_ 0 _ rfl; refine zB ?_; exact BK371.out) Tryz.underlying26 rfl (by kernel_rfl)) rfl ?_
        exact ⟨by first | rfl | (simp [errW_none, errW_some] <;> rfl) | (simp [*, errW_none, errW_some] <;> rfl), by repeat first | with_reducible exact HB.out | refine zS ?_ | refine below_set ?_ GE371.out | exact HB.out⟩
      · replace c8 := Bool.eq_false_iff.mpr c8
        subst c8
        have H1 : (if a0.size + a1.size ≤ 9223372036854775807 then ((pannierref03_Of.f (a0 ++ a1)).bind fun bt377 => (some (bt377.1, bt377.2.1, bt377.2.2))) else (none)) = some (r1, r2, r3) := by rw [if_neg (show ¬ (false = true) by decide)] at H; exact H
        clear H
        have H := H1
        clear H1
        by_cases c12 : a0.size + a1.size ≤ 9223372036854775807
        · rw [if_pos c12] at H
          have c12b0 := eq_true c12
          have c12b1 : decide (a0.size + a1.size ≤ 9223372036854775807) = true := decide_eq_true c12
          try have c12b2 : (9223372036854775807 < a0.size + a1.size) = False := eq_false (Nat.not_lt.2 c12)
          replace H := Option.bind_eq_some_iff.mp H
          obtain ⟨⟨t377, t378, t379⟩, A130, H⟩ := H
          replace H : (some (t377, t378, t379)) = some (r1, r2, r3) := H
          have A13 := Aside0.mk A130
          clear A130
          simp only [Option.some.injEq, Prod.mk.injEq] at H
          obtain ⟨rfl, rfl, rfl⟩ := H
          go_wp2_with (first | ((with_reducible refine gate_callee (f := 61) rfl ?_); refine goesL_ (some 15) rfl rfl Tryz.func61 (by kernel_rfl) rfl #[.string (a0 ++ a1)] rfl (by (try simp only [List.map_toArray, List.map_cons, List.map_nil]); first | done | rfl | (simp only [List.length_drop, List.length_take]; rfl)) ?_; (with_reducible refine (pannierref03_Of.calls (a0 ++ a1) t377 t378 t379 _ A13.out).mono ?_); rintro e w14 ⟨rfl, hb⟩; refine ⟨_, rfl, ?_⟩; have n0_ := Aside0.mk (blk_below (g := gb371) (o := .cells #[.int .i64 0, .int .i64 0, .string (⟨#[]⟩ : ByteArray)] 26 (0, 0)) (zB BK371.out) hb); have n1_ := Aside0.mk (below_step (by repeat first | with_reducible exact HB.out | refine zS ?_ | refine below_set ?_ GE371.out | exact HB.out) hb); clear BK371; clear HB; have BK371 := n0_; have HB := n1_; clear n0_ n1_; (try clear hb); (try clear hb2); (try clear hk); (try clear hi); obtain ⟨hcz15_0, hcz15_1, hcz15_2, hfz15_0, hfz15_1, hfz15_2⟩ := zC3 BK371.out))
          refine bodyPost_ret (results_cell_row rfl _ _ gb371 26 #[.int .i64 t377, .int .i64 t378, .string t379] (0, 0) _ rfl (by refine zB ?_; refine blk_put (cs := #[.int .i64 t377, .int .i64 t378, .string (⟨#[]⟩ : ByteArray)]) ?_ 2 _ rfl; refine zB ?_; refine blk_put (cs := #[.int .i64 t377, .int .i64 0, .string (⟨#[]⟩ : ByteArray)]) ?_ 1 _ rfl; refine zB ?_; refine blk_put (cs := #[.int .i64 0, .int .i64 0, .string (⟨#[]⟩ : ByteArray)]) ?_ 0 _ rfl; refine zB ?_; exact BK371.out) Tryz.underlying26 rfl (by kernel_rfl)) rfl ?_
          exact ⟨by first | rfl | (simp [errW_none, errW_some] <;> rfl) | (simp [*, errW_none, errW_some] <;> rfl), by repeat first | with_reducible exact HB.out | refine zS ?_ | refine below_set ?_ GE371.out | exact HB.out⟩
        · rw [if_neg c12] at H
          exact absurd H (by simp)
end Go.Proofs.YtmdmpafdpgdpoaaGreatDoor.P

namespace Go.Proofs.YtmdmpafdpgdpoaaGreatDoor.P
open Go.RowKit Go.Proofs.YtmdmpafdpgdpoaaGreatDoorW.PrintWords Go.Proofs.YtmdmpafdpgdpoaaGreatDoorW.PrintLast Go.Proofs.YtmdmpafdpgdpoaaGreatDoorW.PrintMore
attribute [local go_sem] max2_int min2_int max_two min_two max_three min_three max_four min_four   -- for this text's walks alone
set_option linter.unusedVariables false
set_option linter.unusedSimpArgs false
def pannierref10_join.l0 : Nat → List (S26) → ByteArray → Int → Option (Int × Int × ByteArray × Bool)
  | 0, _, _, _ => none
  | k + 1, x0, x3, x4 => if x4 < (x0.length : Int) then (if 0 ≤ x4 then ((pannierref03_Str.f k ((rd_T26 x0 x4).f0) ((rd_T26 x0 x4).f1) ((rd_T26 x0 x4).f2)).bind fun bt385 => (if bt385.2.2.2.1 = 4 then (some (bt385.2.2.2.1, bt385.2.2.2.2.1, bt385.2.2.2.2.2, true)) else ((pannierref09_Join.f k x3 bt385.2.2.1).bind fun bt392 => (if bt392.1 = 4 then (some (bt392.1, bt392.2.1, bt392.2.2, true)) else (pannierref10_join.l0 k x0 bt392.2.2 (wrap64 (x4 + 1))))))) else (none)) else ((pannierref03_Of.f x3).bind fun bt381 => (some (bt381.1, bt381.2.1, bt381.2.2, true)))
def pannierref10_join.f (k : Nat) (l0 : List (S26)) : Option (Int × Int × ByteArray × Bool) := pannierref10_join.l0 k l0 (⟨#[]⟩ : ByteArray) 0
set_option maxHeartbeats 8000000 in
set_option maxRecDepth 100000 in
theorem pannierref10_join.calls (k : Nat) (A0 : Option Addr) (c0 : Nat) (l0 : List (S26)) (r1 : Int) (r2 : Int) (r3 : ByteArray) (r4 : Bool) (w : World) (hr0 : Kd.C k26 w A0 l0.length l0) (hc0 : l0.length ≤ c0) (h : pannierref10_join.f k l0 = some (r1, r2, r3, r4)) :
    Calls Tryz.prog 32 #[.slice A0 l0.length c0] w fun e w' => e = .returned (.agg #[.int .i64 r1, .int .i64 r2, .string r3, .bool r4]) ∧ Below w.heap.size w w' := by
  have hu30 := Tryz.underlying30
  have hu26 := Tryz.underlying26
  have hu69 := Tryz.underlying69
  have HR0 := Aside0.mk hr0
  have HC0 := Aside0.mk hc0
  clear hr0 hc0
  have HB := Aside0.mk (Below.refl w.heap.size w)
  have H : (pannierref10_join.l0 k l0 (⟨#[]⟩ : ByteArray) 0) = some (r1, r2, r3, r4) := h
  clear h
  have H' := Aside0.mk H
  clear H
  go_enter Tryz.func32, Tryz.ntmps32
  go_wp2_with (first | ((with_reducible refine gate_dst (N := 2) rfl ?_); refine box_event ?hg (N := 2) ?hd (cs := #[.int .i64 0, .int .i64 0, .string (⟨#[]⟩ : ByteArray), .bool false]) (t := 30) ?hr ?_; (case hd => rfl); (case hg => rfl); (case hr => first | (go_simp; done) | (go_simp; rfl)); intro gb380 hg w2 hbox hb; have n0_ := Aside0.mk (below_step (by repeat first | with_reducible exact HB.out | refine zS ?_ | exact HB.out) hb); have n1_ := Aside0.mk (hbox); have n2_ := Aside0.mk ((by rw [hg]; exact (below_size (by repeat first | with_reducible exact HB.out | refine zS ?_ | exact HB.out)) : w.heap.size ≤ gb380)); have n3_ := n2_; clear HB; have HB := n0_; have BK380 := n1_; have GW380 := n2_; have GE380 := n3_; clear n0_ n1_ n2_ n3_; clear hb hbox hg))
  go_loopg [3, 4] k (fun kq v3 v4 w' => ∃ (x3_1 : ByteArray) (x4_1 : Int) (x381000_1 : Int) (x381001_1 : Int) (x381002_1 : ByteArray) (x381003_1 : Bool), v3 = .string x3_1 ∧ v4 = .int .i64 x4_1 ∧ Aside0 (pannierref10_join.l0 kq l0 x3_1 x4_1 = some (r1, r2, r3, r4)) ∧ Aside0 (kq ≤ k) ∧ Aside0 (w'.heap[gb380]? = some (.cells #[.int .i64 x381000_1, .int .i64 x381001_1, .string x381002_1, .bool x381003_1] 30 (0, 0))) ∧ Aside0 (Below w.heap.size w w'))
  case atStart => exact ⟨((⟨#[]⟩ : ByteArray)), (0), (0), (0), ((⟨#[]⟩ : ByteArray)), (false), (by first | rfl | (simp; done) | (simp [*]; done)), (by first | rfl | (simp; done) | (simp [*]; done)), H', ⟨Nat.le_refl _⟩, ⟨by exact zB BK380.out⟩, ⟨by repeat first | with_reducible exact HB.out | refine zS ?_ | refine below_set ?_ GE380.out | exact HB.out⟩⟩
  case round =>
    clear H'
    try clear p2
    obtain ⟨x3_1, x4_1, x381000_1, x381001_1, x381002_1, x381003_1, rfl, rfl, HA, HK1, BK380, HB⟩ := hrel
    cases gk with
    | zero => exact absurd HA.out (by simp [pannierref10_join.l0])
    | succ k1 =>
      have H := HA.out
      clear HA
      simp only [pannierref10_join.l0] at H
      by_cases c3 : x4_1 < (l0.length : Int)
      · rw [if_pos c3] at H
        have c3b0 : decide (x4_1 < (l0.length : Int)) = true := decide_eq_true c3
        clear c3
        by_cases c4 : 0 ≤ x4_1
        · rw [if_pos c4] at H
          have c4b0 : decide (0 ≤ x4_1) = true := decide_eq_true c4
          clear c4
          replace H := Option.bind_eq_some_iff.mp H
          obtain ⟨⟨t385, t386, t387, t388, t389, t390⟩, A50, H⟩ := H
          replace H : (if t388 = 4 then (some (t388, t389, t390, true)) else ((pannierref09_Join.f k1 x3_1 t387).bind fun bt392 => (if bt392.1 = 4 then (some (bt392.1, bt392.2.1, bt392.2.2, true)) else (pannierref10_join.l0 k1 l0 bt392.2.2 (wrap64 (x4_1 + 1)))))) = some (r1, r2, r3, r4) := H
          have A5 := Aside0.mk A50
          clear A50
          by_cases c6 : t388 = 4
          · rw [if_pos c6] at H
            have c6b0 : (t388 == 4) = true := beq_iff_eq.mpr c6
            have c6b1 : (t388 != 4) = false := bne_eq_false_iff_eq.mpr c6
            clear c6
            simp only [Option.some.injEq, Prod.mk.injEq] at H
            obtain ⟨rfl, rfl, rfl, rfl⟩ := H
            have p384 : 0 ≤ (x4_1 : Int) := of_decide_eq_true (by first | (with_reducible assumption) | assumption)
            have q384 : x4_1 < (l0.length : Int) := of_decide_eq_true (by first | (with_reducible assumption) | assumption)
            obtain ⟨ad384, e384, hx384_0, hx384_1, hx384_2⟩ := at_T26 HR0.out x4_1 p384 q384
            cases e384
            replace hx384_0 := (HB.out.cell (World.block_lt_of_cell? w _ hx384_0)).trans hx384_0
            replace hx384_1 := (HB.out.cell (World.block_lt_of_cell? w _ hx384_1)).trans hx384_1
            replace hx384_2 := (HB.out.cell (World.block_lt_of_cell? w _ hx384_2)).trans hx384_2
            replace p384 := eq_true p384
            replace q384 := eq_true q384
            go_wp2_with (first | ((with_reducible refine gate_callee (f := 59) rfl ?_); refine goesL_ (some 17) rfl rfl Tryz.func59 (by kernel_rfl) rfl #[.agg #[.int .i64 ((rd_T26 l0 x4_1).f0), .int .i64 ((rd_T26 l0 x4_1).f1), .string ((rd_T26 l0 x4_1).f2)]] rfl (by (try simp only [List.map_toArray, List.map_cons, List.map_nil]); first | done | rfl | (simp only [List.length_drop, List.length_take]; rfl)) ?_; (with_reducible refine (pannierref03_Str.calls k1 ((rd_T26 l0 x4_1).f0) ((rd_T26 l0 x4_1).f1) ((rd_T26 l0 x4_1).f2) t385 t386 t387 t388 t389 t390 _ A5.out).mono ?_); rintro e w7 ⟨rfl, hb⟩; refine ⟨_, rfl, ?_⟩; have n0_ := Aside0.mk (blk_below (g := gb380) (o := .cells #[.int .i64 x381000_1, .int .i64 x381001_1, .string x381002_1, .bool x381003_1] 30 (0, 0)) (zB BK380.out) hb); have n1_ := Aside0.mk (below_step (by repeat first | with_reducible exact HB.out | refine zS ?_ | refine below_set ?_ GE380.out | exact HB.out) hb); clear BK380; clear HB; have BK380 := n0_; have HB := n1_; clear n0_ n1_; (try clear hb); (try clear hb2); (try clear hk); (try clear hi)) | ((with_reducible refine gate_dst (N := 5) rfl ?_); refine box_event ?hg (N := 5) ?hd (cs := #[.int .i64 0, .bool false, .string (⟨#[]⟩ : ByteArray), .int .i64 0, .int .i64 0, .string (⟨#[]⟩ : ByteArray)]) (t := 69) ?hr ?_; (case hd => rfl); (case hg => rfl); (case hr => first | (go_simp; done) | (go_simp; rfl)); intro gb391 hg w8 hbox hb; have n0_ := Aside0.mk (blk_below (g := gb380) (o := .cells #[.int .i64 x381000_1, .int .i64 x381001_1, .string x381002_1, .bool x381003_1] 30 (0, 0)) (zB BK380.out) hb); have n1_ := Aside0.mk (below_step (by repeat first | with_reducible exact HB.out | refine zS ?_ | refine below_set ?_ GE380.out | exact HB.out) hb); have n2_ := Aside0.mk (hbox); have n3_ := Aside0.mk ((by rw [hg]; exact (below_size (by repeat first | with_reducible exact HB.out | refine zS ?_ | refine below_set ?_ GE380.out | exact HB.out)) : w.heap.size ≤ gb391)); have n4_ := n3_; have n5_ := Aside0.mk ((by rw [hg]; exact Nat.ne_of_lt (blk_lt (g := gb380) (o := .cells #[.int .i64 x381000_1, .int .i64 x381001_1, .string x381002_1, .bool x381003_1] 30 (0, 0)) (zB BK380.out)) : gb380 ≠ gb391)); have n6_ := Aside0.mk ((by rw [hg]; exact Nat.ne_of_gt (blk_lt (g := gb380) (o := .cells #[.int .i64 x381000_1, .int .i64 x381001_1, .string x381002_1, .bool x381003_1] 30 (0, 0)) (zB BK380.out)) : gb391 ≠ gb380)); clear BK380; clear HB; have BK380 := n0_; have HB := n1_; have BK391 := n2_; have GW391 := n3_; have GE391 := n4_; have NB380_391 := n5_; have NB391_380 := n6_; clear n0_ n1_ n2_ n3_ n4_ n5_ n6_; clear hb hbox hg; have hnb9 := NB391_380.out; have hnc9 := NB380_391.out; obtain ⟨hcz10_0, hcz10_1, hcz10_2, hcz10_3, hcz10_4, hcz10_5, hfz10_0, hfz10_1, hfz10_2, hfz10_3, hfz10_4, hfz10_5⟩ := zC6 BK391.out; obtain ⟨hcz11_0, hcz11_1, hcz11_2, hcz11_3, hfz11_0, hfz11_1, hfz11_2, hfz11_3⟩ := zC4 BK380.out))
            refine bodyPost_ret (results_cell_row rfl _ _ gb380 30 #[.int .i64 t388, .int .i64 t389, .string t390, .bool true] (0, 0) _ rfl (by refine zB ?_; refine blk_put (cs := #[.int .i64 t388, .int .i64 t389, .string t390, .bool x381003_1]) ?_ 3 _ rfl; refine zB ?_; refine blk_put (cs := #[.int .i64 t388, .int .i64 t389, .string x381002_1, .bool x381003_1]) ?_ 2 _ rfl; refine zB ?_; refine blk_put (cs := #[.int .i64 t388, .int .i64 x381001_1, .string x381002_1, .bool x381003_1]) ?_ 1 _ rfl; refine zB ?_; refine blk_put (cs := #[.int .i64 x381000_1, .int .i64 x381001_1, .string x381002_1, .bool x381003_1]) ?_ 0 _ rfl; refine zB (blk_far ?_ NB380_391.out _); refine zB ?_; refine blk_far ?_ NB380_391.out _; refine zB (blk_far ?_ NB380_391.out _); refine zB ?_; refine blk_far ?_ NB380_391.out _; refine zB (blk_far ?_ NB380_391.out _); refine zB (blk_far ?_ NB380_391.out _); refine zB ?_; exact BK380.out) Tryz.underlying30 rfl (by kernel_rfl)) rfl ?_
            exact ⟨by first | rfl | (simp [errW_none, errW_some] <;> rfl) | (simp [*, errW_none, errW_some] <;> rfl), by repeat first | with_reducible exact HB.out | refine zS ?_ | refine below_set ?_ GE380.out | refine below_set ?_ GE391.out | exact HB.out⟩
          · rw [if_neg c6] at H
            have c6b0 : (t388 == 4) = false := beq_eq_false_iff_ne.mpr c6
            have c6b1 : (t388 != 4) = true := bne_iff_ne.mpr c6
            replace H := Option.bind_eq_some_iff.mp H
            obtain ⟨⟨t392, t393, t394⟩, A120, H⟩ := H
            replace H : (if t392 = 4 then (some (t392, t393, t394, true)) else (pannierref10_join.l0 k1 l0 t394 (wrap64 (x4_1 + 1)))) = some (r1, r2, r3, r4) := H
            have A12 := Aside0.mk A120
            clear A120
            by_cases c13 : t392 = 4
            · rw [if_pos c13] at H
              have c13b0 : (t392 == 4) = true := beq_iff_eq.mpr c13
              have c13b1 : (t392 != 4) = false := bne_eq_false_iff_eq.mpr c13
              clear c13
              simp only [Option.some.injEq, Prod.mk.injEq] at H
              obtain ⟨rfl, rfl, rfl, rfl⟩ := H
              have p384 : 0 ≤ (x4_1 : Int) := of_decide_eq_true (by first | (with_reducible assumption) | assumption)
              have q384 : x4_1 < (l0.length : Int) := of_decide_eq_true (by first | (with_reducible assumption) | assumption)
              obtain ⟨ad384, e384, hx384_0, hx384_1, hx384_2⟩ := at_T26 HR0.out x4_1 p384 q384
              cases e384
              replace hx384_0 := (HB.out.cell (World.block_lt_of_cell? w _ hx384_0)).trans hx384_0
              replace hx384_1 := (HB.out.cell (World.block_lt_of_cell? w _ hx384_1)).trans hx384_1
              replace hx384_2 := (HB.out.cell (World.block_lt_of_cell? w _ hx384_2)).trans hx384_2
              replace p384 := eq_true p384
              replace q384 := eq_true q384
              go_wp2_with (first | ((with_reducible refine gate_callee (f := 59) rfl ?_); refine goesL_ (some 17) rfl rfl Tryz.func59 (by kernel_rfl) rfl #[.agg #[.int .i64 ((rd_T26 l0 x4_1).f0), .int .i64 ((rd_T26 l0 x4_1).f1), .string ((rd_T26 l0 x4_1).f2)]] rfl (by (try simp only [List.map_toArray, List.map_cons, List.map_nil]); first | done | rfl | (simp only [List.length_drop, List.length_take]; rfl)) ?_; (with_reducible refine (pannierref03_Str.calls k1 ((rd_T26 l0 x4_1).f0) ((rd_T26 l0 x4_1).f1) ((rd_T26 l0 x4_1).f2) t385 t386 t387 t388 t389 t390 _ A5.out).mono ?_); rintro e w14 ⟨rfl, hb⟩; refine ⟨_, rfl, ?_⟩; have n0_ := Aside0.mk (blk_below (g := gb380) (o := .cells #[.int .i64 x381000_1, .int .i64 x381001_1, .string x381002_1, .bool x381003_1] 30 (0, 0)) (zB BK380.out) hb); have n1_ := Aside0.mk (below_step (by repeat first | with_reducible exact HB.out | refine zS ?_ | refine below_set ?_ GE380.out | exact HB.out) hb); clear BK380; clear HB; have BK380 := n0_; have HB := n1_; clear n0_ n1_; (try clear hb); (try clear hb2); (try clear hk); (try clear hi)) | ((with_reducible refine gate_dst (N := 5) rfl ?_); refine box_event ?hg (N := 5) ?hd (cs := #[.int .i64 0, .bool false, .string (⟨#[]⟩ : ByteArray), .int .i64 0, .int .i64 0, .string (⟨#[]⟩ : ByteArray)]) (t := 69) ?hr ?_; (case hd => rfl); (case hg => rfl); (case hr => first | (go_simp; done) | (go_simp; rfl)); intro gb391 hg w15 hbox hb; have n0_ := Aside0.mk (blk_below (g := gb380) (o := .cells #[.int .i64 x381000_1, .int .i64 x381001_1, .string x381002_1, .bool x381003_1] 30 (0, 0)) (zB BK380.out) hb); have n1_ := Aside0.mk (below_step (by repeat first | with_reducible exact HB.out | refine zS ?_ | refine below_set ?_ GE380.out | exact HB.out) hb); have n2_ := Aside0.mk (hbox); have n3_ := Aside0.mk ((by rw [hg]; exact (below_size (by repeat first | with_reducible exact HB.out | refine zS ?_ | refine below_set ?_ GE380.out | exact HB.out)) : w.heap.size ≤ gb391)); have n4_ := n3_; have n5_ := Aside0.mk ((by rw [hg]; exact Nat.ne_of_lt (blk_lt (g := gb380) (o := .cells #[.int .i64 x381000_1, .int .i64 x381001_1, .string x381002_1, .bool x381003_1] 30 (0, 0)) (zB BK380.out)) : gb380 ≠ gb391)); have n6_ := Aside0.mk ((by rw [hg]; exact Nat.ne_of_gt (blk_lt (g := gb380) (o := .cells #[.int .i64 x381000_1, .int .i64 x381001_1, .string x381002_1, .bool x381003_1] 30 (0, 0)) (zB BK380.out)) : gb391 ≠ gb380)); clear BK380; clear HB; have BK380 := n0_; have HB := n1_; have BK391 := n2_; have GW391 := n3_; have GE391 := n4_; have NB380_391 := n5_; have NB391_380 := n6_; clear n0_ n1_ n2_ n3_ n4_ n5_ n6_; clear hb hbox hg; have hnb16 := NB391_380.out; have hnc16 := NB380_391.out; obtain ⟨hcz17_0, hcz17_1, hcz17_2, hcz17_3, hcz17_4, hcz17_5, hfz17_0, hfz17_1, hfz17_2, hfz17_3, hfz17_4, hfz17_5⟩ := zC6 BK391.out) | ((with_reducible refine gate_callee (f := 60) rfl ?_); refine goesL_ (some 28) rfl rfl Tryz.func60 (by kernel_rfl) rfl #[.string x3_1, .string t387] rfl (by (try simp only [List.map_toArray, List.map_cons, List.map_nil]); first | done | rfl | (simp only [List.length_drop, List.length_take]; rfl)) ?_; (with_reducible refine (pannierref09_Join.calls k1 x3_1 t387 t392 t393 t394 _ A12.out).mono ?_); rintro e w18 ⟨rfl, hb⟩; refine ⟨_, rfl, ?_⟩; have n0_ := Aside0.mk (blk_below (g := gb380) (o := .cells #[.int .i64 x381000_1, .int .i64 x381001_1, .string x381002_1, .bool x381003_1] 30 (0, 0)) (by refine zB (blk_far ?_ NB380_391.out _); refine zB ?_; refine blk_far ?_ NB380_391.out _; refine zB (blk_far ?_ NB380_391.out _); refine zB ?_; refine blk_far ?_ NB380_391.out _; refine zB (blk_far ?_ NB380_391.out _); refine zB (blk_far ?_ NB380_391.out _); refine zB ?_; exact BK380.out) hb); have n1_ := Aside0.mk (blk_below (g := gb391) (o := .cells #[.int .i64 t385, .bool t386, .string t387, .int .i64 t388, .int .i64 t389, .string t390] 69 (0, 0)) (by refine zB ?_; refine blk_put (cs := #[.int .i64 t385, .bool t386, .string t387, .int .i64 t388, .int .i64 t389, .string (⟨#[]⟩ : ByteArray)]) ?_ 5 _ rfl; refine zB ?_; refine blk_put (cs := #[.int .i64 t385, .bool t386, .string t387, .int .i64 t388, .int .i64 0, .string (⟨#[]⟩ : ByteArray)]) ?_ 4 _ rfl; refine zB ?_; refine blk_put (cs := #[.int .i64 t385, .bool t386, .string t387, .int .i64 0, .int .i64 0, .string (⟨#[]⟩ : ByteArray)]) ?_ 3 _ rfl; refine zB ?_; refine blk_put (cs := #[.int .i64 t385, .bool t386, .string (⟨#[]⟩ : ByteArray), .int .i64 0, .int .i64 0, .string (⟨#[]⟩ : ByteArray)]) ?_ 2 _ rfl; refine zB ?_; refine blk_put (cs := #[.int .i64 t385, .bool false, .string (⟨#[]⟩ : ByteArray), .int .i64 0, .int .i64 0, .string (⟨#[]⟩ : ByteArray)]) ?_ 1 _ rfl; refine zB ?_; refine blk_put (cs := #[.int .i64 0, .bool false, .string (⟨#[]⟩ : ByteArray), .int .i64 0, .int .i64 0, .string (⟨#[]⟩ : ByteArray)]) ?_ 0 _ rfl; refine zB ?_; exact BK391.out) hb); have n2_ := Aside0.mk (below_step (by repeat first | with_reducible exact HB.out | refine zS ?_ | refine below_set ?_ GE380.out | refine below_set ?_ GE391.out | exact HB.out) hb); clear BK380; clear BK391; clear HB; have BK380 := n0_; have BK391 := n1_; have HB := n2_; clear n0_ n1_ n2_; (try clear hb); (try clear hb2); (try clear hk); (try clear hi)) | ((with_reducible refine gate_dst (N := 6) rfl ?_); refine box_event ?hg (N := 6) ?hd (cs := #[.int .i64 0, .int .i64 0, .string (⟨#[]⟩ : ByteArray)]) (t := 26) ?hr ?_; (case hd => rfl); (case hg => rfl); (case hr => first | (go_simp; done) | (go_simp; rfl)); intro gb395 hg w19 hbox hb; have n0_ := Aside0.mk (blk_below (g := gb380) (o := .cells #[.int .i64 x381000_1, .int .i64 x381001_1, .string x381002_1, .bool x381003_1] 30 (0, 0)) (zB BK380.out) hb); have n1_ := Aside0.mk (blk_below (g := gb391) (o := .cells #[.int .i64 t385, .bool t386, .string t387, .int .i64 t388, .int .i64 t389, .string t390] 69 (0, 0)) (zB BK391.out) hb); have n2_ := Aside0.mk (below_step (by repeat first | with_reducible exact HB.out | refine zS ?_ | refine below_set ?_ GE380.out | refine below_set ?_ GE391.out | exact HB.out) hb); have n3_ := Aside0.mk (hbox); have n4_ := Aside0.mk ((by rw [hg]; exact (below_size (by repeat first | with_reducible exact HB.out | refine zS ?_ | refine below_set ?_ GE380.out | refine below_set ?_ GE391.out | exact HB.out)) : w.heap.size ≤ gb395)); have n5_ := n4_; have n6_ := Aside0.mk ((by rw [hg]; exact Nat.ne_of_lt (blk_lt (g := gb380) (o := .cells #[.int .i64 x381000_1, .int .i64 x381001_1, .string x381002_1, .bool x381003_1] 30 (0, 0)) (zB BK380.out)) : gb380 ≠ gb395)); have n7_ := Aside0.mk ((by rw [hg]; exact Nat.ne_of_gt (blk_lt (g := gb380) (o := .cells #[.int .i64 x381000_1, .int .i64 x381001_1, .string x381002_1, .bool x381003_1] 30 (0, 0)) (zB BK380.out)) : gb395 ≠ gb380)); have n8_ := Aside0.mk ((by rw [hg]; exact Nat.ne_of_lt (blk_lt (g := gb391) (o := .cells #[.int .i64 t385, .bool t386, .string t387, .int .i64 t388, .int .i64 t389, .string t390] 69 (0, 0)) (zB BK391.out)) : gb391 ≠ gb395)); have n9_ := Aside0.mk ((by rw [hg]; exact Nat.ne_of_gt (blk_lt (g := gb391) (o := .cells #[.int .i64 t385, .bool t386, .string t387, .int .i64 t388, .int .i64 t389, .string t390] 69 (0, 0)) (zB BK391.out)) : gb395 ≠ gb391)); clear BK380; clear BK391; clear HB; have BK380 := n0_; have BK391 := n1_; have HB := n2_; have BK395 := n3_; have GW395 := n4_; have GE395 := n5_; have NB380_395 := n6_; have NB395_380 := n7_; have NB391_395 := n8_; have NB395_391 := n9_; clear n0_ n1_ n2_ n3_ n4_ n5_ n6_ n7_ n8_ n9_; clear hb hbox hg; have hnb20 := NB395_380.out; have hnc20 := NB380_395.out; have hnb21 := NB395_391.out; have hnc21 := NB391_395.out; obtain ⟨hcz22_0, hcz22_1, hcz22_2, hfz22_0, hfz22_1, hfz22_2⟩ := zC3 BK395.out; obtain ⟨hcz23_0, hcz23_1, hcz23_2, hcz23_3, hfz23_0, hfz23_1, hfz23_2, hfz23_3⟩ := zC4 BK380.out))
              refine bodyPost_ret (results_cell_row rfl _ _ gb380 30 #[.int .i64 t392, .int .i64 t393, .string t394, .bool true] (0, 0) _ rfl (by refine zB ?_; refine blk_put (cs := #[.int .i64 t392, .int .i64 t393, .string t394, .bool x381003_1]) ?_ 3 _ rfl; refine zB ?_; refine blk_put (cs := #[.int .i64 t392, .int .i64 t393, .string x381002_1, .bool x381003_1]) ?_ 2 _ rfl; refine zB ?_; refine blk_put (cs := #[.int .i64 t392, .int .i64 x381001_1, .string x381002_1, .bool x381003_1]) ?_ 1 _ rfl; refine zB ?_; refine blk_put (cs := #[.int .i64 x381000_1, .int .i64 x381001_1, .string x381002_1, .bool x381003_1]) ?_ 0 _ rfl; refine zB (blk_far ?_ NB380_395.out _); refine zB ?_; refine blk_far ?_ NB380_395.out _; refine zB (blk_far ?_ NB380_395.out _); refine zB ?_; exact BK380.out) Tryz.underlying30 rfl (by kernel_rfl)) rfl ?_
              exact ⟨by first | rfl | (simp [errW_none, errW_some] <;> rfl) | (simp [*, errW_none, errW_some] <;> rfl), by repeat first | with_reducible exact HB.out | refine zS ?_ | refine below_set ?_ GE380.out | refine below_set ?_ GE391.out | refine below_set ?_ GE395.out | exact HB.out⟩
            · rw [if_neg c13] at H
              have c13b0 : (t392 == 4) = false := beq_eq_false_iff_ne.mpr c13
              have c13b1 : (t392 != 4) = true := bne_iff_ne.mpr c13
              have H' := Aside0.mk H
              clear H
              have p384 : 0 ≤ (x4_1 : Int) := of_decide_eq_true (by first | (with_reducible assumption) | assumption)
              have q384 : x4_1 < (l0.length : Int) := of_decide_eq_true (by first | (with_reducible assumption) | assumption)
              obtain ⟨ad384, e384, hx384_0, hx384_1, hx384_2⟩ := at_T26 HR0.out x4_1 p384 q384
              cases e384
              replace hx384_0 := (HB.out.cell (World.block_lt_of_cell? w _ hx384_0)).trans hx384_0
              replace hx384_1 := (HB.out.cell (World.block_lt_of_cell? w _ hx384_1)).trans hx384_1
              replace hx384_2 := (HB.out.cell (World.block_lt_of_cell? w _ hx384_2)).trans hx384_2
              replace p384 := eq_true p384
              replace q384 := eq_true q384
              go_wp2_with (first | ((with_reducible refine gate_callee (f := 59) rfl ?_); refine goesL_ (some 17) rfl rfl Tryz.func59 (by kernel_rfl) rfl #[.agg #[.int .i64 ((rd_T26 l0 x4_1).f0), .int .i64 ((rd_T26 l0 x4_1).f1), .string ((rd_T26 l0 x4_1).f2)]] rfl (by (try simp only [List.map_toArray, List.map_cons, List.map_nil]); first | done | rfl | (simp only [List.length_drop, List.length_take]; rfl)) ?_; (with_reducible refine (pannierref03_Str.calls k1 ((rd_T26 l0 x4_1).f0) ((rd_T26 l0 x4_1).f1) ((rd_T26 l0 x4_1).f2) t385 t386 t387 t388 t389 t390 _ A5.out).mono ?_); rintro e w24 ⟨rfl, hb⟩; refine ⟨_, rfl, ?_⟩; have n0_ := Aside0.mk (blk_below (g := gb380) (o := .cells #[.int .i64 x381000_1, .int .i64 x381001_1, .string x381002_1, .bool x381003_1] 30 (0, 0)) (zB BK380.out) hb); have n1_ := Aside0.mk (below_step (by repeat first | with_reducible exact HB.out | refine zS ?_ | refine below_set ?_ GE380.out | exact HB.out) hb); clear BK380; clear HB; have BK380 := n0_; have HB := n1_; clear n0_ n1_; (try clear hb); (try clear hb2); (try clear hk); (try clear hi)) | ((with_reducible refine gate_dst (N := 5) rfl ?_); refine box_event ?hg (N := 5) ?hd (cs := #[.int .i64 0, .bool false, .string (⟨#[]⟩ : ByteArray), .int .i64 0, .int .i64 0, .string (⟨#[]⟩ : ByteArray)]) (t := 69) ?hr ?_; (case hd => rfl); (case hg => rfl); (case hr => first | (go_simp; done) | (go_simp; rfl)); intro gb391 hg w25 hbox hb; have n0_ := Aside0.mk (blk_below (g := gb380) (o := .cells #[.int .i64 x381000_1, .int .i64 x381001_1, .string x381002_1, .bool x381003_1] 30 (0, 0)) (zB BK380.out) hb); have n1_ := Aside0.mk (below_step (by repeat first | with_reducible exact HB.out | refine zS ?_ | refine below_set ?_ GE380.out | exact HB.out) hb); have n2_ := Aside0.mk (hbox); have n3_ := Aside0.mk ((by rw [hg]; exact (below_size (by repeat first | with_reducible exact HB.out | refine zS ?_ | refine below_set ?_ GE380.out | exact HB.out)) : w.heap.size ≤ gb391)); have n4_ := n3_; have n5_ := Aside0.mk ((by rw [hg]; exact Nat.ne_of_lt (blk_lt (g := gb380) (o := .cells #[.int .i64 x381000_1, .int .i64 x381001_1, .string x381002_1, .bool x381003_1] 30 (0, 0)) (zB BK380.out)) : gb380 ≠ gb391)); have n6_ := Aside0.mk ((by rw [hg]; exact Nat.ne_of_gt (blk_lt (g := gb380) (o := .cells #[.int .i64 x381000_1, .int .i64 x381001_1, .string x381002_1, .bool x381003_1] 30 (0, 0)) (zB BK380.out)) : gb391 ≠ gb380)); clear BK380; clear HB; have BK380 := n0_; have HB := n1_; have BK391 := n2_; have GW391 := n3_; have GE391 := n4_; have NB380_391 := n5_; have NB391_380 := n6_; clear n0_ n1_ n2_ n3_ n4_ n5_ n6_; clear hb hbox hg; have hnb26 := NB391_380.out; have hnc26 := NB380_391.out; obtain ⟨hcz27_0, hcz27_1, hcz27_2, hcz27_3, hcz27_4, hcz27_5, hfz27_0, hfz27_1, hfz27_2, hfz27_3, hfz27_4, hfz27_5⟩ := zC6 BK391.out) | ((with_reducible refine gate_callee (f := 60) rfl ?_); refine goesL_ (some 28) rfl rfl Tryz.func60 (by kernel_rfl) rfl #[.string x3_1, .string t387] rfl (by (try simp only [List.map_toArray, List.map_cons, List.map_nil]); first | done | rfl | (simp only [List.length_drop, List.length_take]; rfl)) ?_; (with_reducible refine (pannierref09_Join.calls k1 x3_1 t387 t392 t393 t394 _ A12.out).mono ?_); rintro e w28 ⟨rfl, hb⟩; refine ⟨_, rfl, ?_⟩; have n0_ := Aside0.mk (blk_below (g := gb380) (o := .cells #[.int .i64 x381000_1, .int .i64 x381001_1, .string x381002_1, .bool x381003_1] 30 (0, 0)) (by refine zB (blk_far ?_ NB380_391.out _); refine zB ?_; refine blk_far ?_ NB380_391.out _; refine zB (blk_far ?_ NB380_391.out _); refine zB ?_; refine blk_far ?_ NB380_391.out _; refine zB (blk_far ?_ NB380_391.out _); refine zB (blk_far ?_ NB380_391.out _); refine zB ?_; exact BK380.out) hb); have n1_ := Aside0.mk (blk_below (g := gb391) (o := .cells #[.int .i64 t385, .bool t386, .string t387, .int .i64 t388, .int .i64 t389, .string t390] 69 (0, 0)) (by refine zB ?_; refine blk_put (cs := #[.int .i64 t385, .bool t386, .string t387, .int .i64 t388, .int .i64 t389, .string (⟨#[]⟩ : ByteArray)]) ?_ 5 _ rfl; refine zB ?_; refine blk_put (cs := #[.int .i64 t385, .bool t386, .string t387, .int .i64 t388, .int .i64 0, .string (⟨#[]⟩ : ByteArray)]) ?_ 4 _ rfl; refine zB ?_; refine blk_put (cs := #[.int .i64 t385, .bool t386, .string t387, .int .i64 0, .int .i64 0, .string (⟨#[]⟩ : ByteArray)]) ?_ 3 _ rfl; refine zB ?_; refine blk_put (cs := #[.int .i64 t385, .bool t386, .string (⟨#[]⟩ : ByteArray), .int .i64 0, .int .i64 0, .string (⟨#[]⟩ : ByteArray)]) ?_ 2 _ rfl; refine zB ?_; refine blk_put (cs := #[.int .i64 t385, .bool false, .string (⟨#[]⟩ : ByteArray), .int .i64 0, .int .i64 0, .string (⟨#[]⟩ : ByteArray)]) ?_ 1 _ rfl; refine zB ?_; refine blk_put (cs := #[.int .i64 0, .bool false, .string (⟨#[]⟩ : ByteArray), .int .i64 0, .int .i64 0, .string (⟨#[]⟩ : ByteArray)]) ?_ 0 _ rfl; refine zB ?_; exact BK391.out) hb); have n2_ := Aside0.mk (below_step (by repeat first | with_reducible exact HB.out | refine zS ?_ | refine below_set ?_ GE380.out | refine below_set ?_ GE391.out | exact HB.out) hb); clear BK380; clear BK391; clear HB; have BK380 := n0_; have BK391 := n1_; have HB := n2_; clear n0_ n1_ n2_; (try clear hb); (try clear hb2); (try clear hk); (try clear hi)) | ((with_reducible refine gate_dst (N := 6) rfl ?_); refine box_event ?hg (N := 6) ?hd (cs := #[.int .i64 0, .int .i64 0, .string (⟨#[]⟩ : ByteArray)]) (t := 26) ?hr ?_; (case hd => rfl); (case hg => rfl); (case hr => first | (go_simp; done) | (go_simp; rfl)); intro gb395 hg w29 hbox hb; have n0_ := Aside0.mk (blk_below (g := gb380) (o := .cells #[.int .i64 x381000_1, .int .i64 x381001_1, .string x381002_1, .bool x381003_1] 30 (0, 0)) (zB BK380.out) hb); have n1_ := Aside0.mk (blk_below (g := gb391) (o := .cells #[.int .i64 t385, .bool t386, .string t387, .int .i64 t388, .int .i64 t389, .string t390] 69 (0, 0)) (zB BK391.out) hb); have n2_ := Aside0.mk (below_step (by repeat first | with_reducible exact HB.out | refine zS ?_ | refine below_set ?_ GE380.out | refine below_set ?_ GE391.out | exact HB.out) hb); have n3_ := Aside0.mk (hbox); have n4_ := Aside0.mk ((by rw [hg]; exact (below_size (by repeat first | with_reducible exact HB.out | refine zS ?_ | refine below_set ?_ GE380.out | refine below_set ?_ GE391.out | exact HB.out)) : w.heap.size ≤ gb395)); have n5_ := n4_; have n6_ := Aside0.mk ((by rw [hg]; exact Nat.ne_of_lt (blk_lt (g := gb380) (o := .cells #[.int .i64 x381000_1, .int .i64 x381001_1, .string x381002_1, .bool x381003_1] 30 (0, 0)) (zB BK380.out)) : gb380 ≠ gb395)); have n7_ := Aside0.mk ((by rw [hg]; exact Nat.ne_of_gt (blk_lt (g := gb380) (o := .cells #[.int .i64 x381000_1, .int .i64 x381001_1, .string x381002_1, .bool x381003_1] 30 (0, 0)) (zB BK380.out)) : gb395 ≠ gb380)); have n8_ := Aside0.mk ((by rw [hg]; exact Nat.ne_of_lt (blk_lt (g := gb391) (o := .cells #[.int .i64 t385, .bool t386, .string t387, .int .i64 t388, .int .i64 t389, .string t390] 69 (0, 0)) (zB BK391.out)) : gb391 ≠ gb395)); have n9_ := Aside0.mk ((by rw [hg]; exact Nat.ne_of_gt (blk_lt (g := gb391) (o := .cells #[.int .i64 t385, .bool t386, .string t387, .int .i64 t388, .int .i64 t389, .string t390] 69 (0, 0)) (zB BK391.out)) : gb395 ≠ gb391)); clear BK380; clear BK391; clear HB; have BK380 := n0_; have BK391 := n1_; have HB := n2_; have BK395 := n3_; have GW395 := n4_; have GE395 := n5_; have NB380_395 := n6_; have NB395_380 := n7_; have NB391_395 := n8_; have NB395_391 := n9_; clear n0_ n1_ n2_ n3_ n4_ n5_ n6_ n7_ n8_ n9_; clear hb hbox hg; have hnb30 := NB395_380.out; have hnc30 := NB380_395.out; have hnb31 := NB395_391.out; have hnc31 := NB391_395.out; obtain ⟨hcz32_0, hcz32_1, hcz32_2, hfz32_0, hfz32_1, hfz32_2⟩ := zC3 BK395.out))
              go_roundg k1
              case measure => have := HK1.out; omega
              case rel => exact ⟨(t394), (wrap64 (x4_1 + 1)), (x381000_1), (x381001_1), (x381002_1), (x381003_1), (by first | rfl | (simp; done) | (simp [*]; done)), (by first | rfl | (simp; done) | (simp [*]; done)), H', ⟨by have := HK1.out; omega⟩, ⟨by refine zB (blk_far ?_ NB380_395.out _); refine zB ?_; refine blk_far ?_ NB380_395.out _; refine zB (blk_far ?_ NB380_395.out _); refine zB ?_; exact BK380.out⟩, ⟨by repeat first | with_reducible exact HB.out | refine zS ?_ | refine below_set ?_ GE380.out | refine below_set ?_ GE391.out | refine below_set ?_ GE395.out | exact HB.out⟩⟩
        · rw [if_neg c4] at H
          exact absurd H (by simp)
      · rw [if_neg c3] at H
        have c3b0 : decide (x4_1 < (l0.length : Int)) = false := decide_eq_false c3
        clear c3
        replace H := Option.bind_eq_some_iff.mp H
        obtain ⟨⟨t381, t382, t383⟩, A330, H⟩ := H
        replace H : (some (t381, t382, t383, true)) = some (r1, r2, r3, r4) := H
        have A33 := Aside0.mk A330
        clear A330
        simp only [Option.some.injEq, Prod.mk.injEq] at H
        obtain ⟨rfl, rfl, rfl, rfl⟩ := H
        go_wp2_with (first | ((with_reducible refine gate_callee (f := 61) rfl ?_); refine goesL_ (some 37) rfl rfl Tryz.func61 (by kernel_rfl) rfl #[.string x3_1] rfl (by (try simp only [List.map_toArray, List.map_cons, List.map_nil]); first | done | rfl | (simp only [List.length_drop, List.length_take]; rfl)) ?_; (with_reducible refine (pannierref03_Of.calls x3_1 t381 t382 t383 _ A33.out).mono ?_); rintro e w34 ⟨rfl, hb⟩; refine ⟨_, rfl, ?_⟩; have n0_ := Aside0.mk (blk_below (g := gb380) (o := .cells #[.int .i64 x381000_1, .int .i64 x381001_1, .string x381002_1, .bool x381003_1] 30 (0, 0)) (zB BK380.out) hb); have n1_ := Aside0.mk (below_step (by repeat first | with_reducible exact HB.out | refine zS ?_ | refine below_set ?_ GE380.out | exact HB.out) hb); clear BK380; clear HB; have BK380 := n0_; have HB := n1_; clear n0_ n1_; (try clear hb); (try clear hb2); (try clear hk); (try clear hi); obtain ⟨hcz35_0, hcz35_1, hcz35_2, hcz35_3, hfz35_0, hfz35_1, hfz35_2, hfz35_3⟩ := zC4 BK380.out))
        refine bodyPost_ret (results_cell_row rfl _ _ gb380 30 #[.int .i64 t381, .int .i64 t382, .string t383, .bool true] (0, 0) _ rfl (by refine zB ?_; refine blk_put (cs := #[.int .i64 t381, .int .i64 t382, .string t383, .bool x381003_1]) ?_ 3 _ rfl; refine zB ?_; refine blk_put (cs := #[.int .i64 t381, .int .i64 t382, .string x381002_1, .bool x381003_1]) ?_ 2 _ rfl; refine zB ?_; refine blk_put (cs := #[.int .i64 t381, .int .i64 x381001_1, .string x381002_1, .bool x381003_1]) ?_ 1 _ rfl; refine zB ?_; refine blk_put (cs := #[.int .i64 x381000_1, .int .i64 x381001_1, .string x381002_1, .bool x381003_1]) ?_ 0 _ rfl; refine zB ?_; exact BK380.out) Tryz.underlying30 rfl (by kernel_rfl)) rfl ?_
        exact ⟨by first | rfl | (simp [errW_none, errW_some] <;> rfl) | (simp [*, errW_none, errW_some] <;> rfl), by repeat first | with_reducible exact HB.out | refine zS ?_ | refine below_set ?_ GE380.out | exact HB.out⟩
end Go.Proofs.YtmdmpafdpgdpoaaGreatDoor.P

namespace Go.Proofs.YtmdmpafdpgdpoaaGreatDoor.P
open Go.RowKit Go.Proofs.YtmdmpafdpgdpoaaGreatDoorW.PrintWords Go.Proofs.YtmdmpafdpgdpoaaGreatDoorW.PrintLast Go.Proofs.YtmdmpafdpgdpoaaGreatDoorW.PrintMore
attribute [local go_sem] max2_int min2_int max_two min_two max_three min_three max_four min_four   -- for this text's walks alone
set_option linter.unusedVariables false
set_option linter.unusedSimpArgs false
mutual
def pannierref10_Of.j0 : Nat → ByteArray → List (S26) → ByteArray → Bool → Option (Int × Int × ByteArray × Bool)
  | 0, _, _, _, _ => none
  | k + 1, x0, x1, x9, x10 => if x10 = true then ((pannierref10_total.f k x0 x1).bind fun bt444 => (some (bt444.1, bt444.2.1, bt444.2.2.1, bt444.2.2.2))) else (if x9.toList = ([77, 73, 78] : List UInt8) then (pannierref10_Of.j1 k x0 x1 x9 (x9.toList == ([77, 73, 78] : List UInt8))) else (pannierref10_Of.j1 k x0 x1 x9 (x9.toList == ([77, 65, 88] : List UInt8))))
def pannierref10_Of.j1 : Nat → ByteArray → List (S26) → ByteArray → Bool → Option (Int × Int × ByteArray × Bool)
  | 0, _, _, _, _ => none
  | k + 1, x0, x1, x9, x17 => if x17 = true then ((pannierref10_end.f k x0 x1).bind fun bt448 => (some (bt448.1, bt448.2.1, bt448.2.2.1, bt448.2.2.2))) else (if x9.toList = ([65, 78, 68] : List UInt8) then (pannierref10_Of.j2 k x0 x1 x9 (x9.toList == ([65, 78, 68] : List UInt8))) else (pannierref10_Of.j2 k x0 x1 x9 (x9.toList == ([79, 82] : List UInt8))))
def pannierref10_Of.j2 : Nat → ByteArray → List (S26) → ByteArray → Bool → Option (Int × Int × ByteArray × Bool)
  | 0, _, _, _, _ => none
  | k + 1, x0, x1, x9, x23 => if x23 = true then ((pannierref10_truth.f k x0 x1).bind fun bt452 => (some (bt452.1, bt452.2.1, bt452.2.2.1, bt452.2.2.2))) else (if x9.toList = ([74, 79, 73, 78] : List UInt8) then ((pannierref10_join.f k x1).bind fun bt456 => (some (bt456.1, bt456.2.1, bt456.2.2.1, bt456.2.2.2))) else (if x9.toList = ([67, 79, 85, 78, 84] : List UInt8) then (pannierref10_Of.l0 k x1 0 0) else (if x9.toList = ([67, 79, 85, 78, 84, 65] : List UInt8) then ((pannierref10_num.f (x1.length : Int)).bind fun bt465 => (some (bt465.1, bt465.2.1, bt465.2.2.1, bt465.2.2.2))) else (some (0, 0, (⟨#[]⟩ : ByteArray), false)))))
def pannierref10_Of.l0 : Nat → List (S26) → Int → Int → Option (Int × Int × ByteArray × Bool)
  | 0, _, _, _ => none
  | k + 1, x1, x5, x6 => if x6 < (x1.length : Int) then (if 0 ≤ x6 then (if ((rd_T26 x1 x6).f0) = 2 then (pannierref10_Of.l0 k x1 (wrap64 (x5 + 1)) (wrap64 (x6 + 1))) else (pannierref10_Of.l0 k x1 x5 (wrap64 (x6 + 1)))) else (none)) else ((pannierref10_num.f x5).bind fun bt461 => (some (bt461.1, bt461.2.1, bt461.2.2.1, bt461.2.2.2)))
end
def pannierref10_Of.f (k : Nat) (a0 : ByteArray) (l1 : List (S26)) : Option (Int × Int × ByteArray × Bool) := (pannierref10_full.f k l1).bind fun t441 => (if a0.toList = ([83, 85, 77] : List UInt8) then (pannierref10_Of.j0 k a0 t441 a0 (a0.toList == ([83, 85, 77] : List UInt8))) else (if a0.toList = ([80, 82, 79, 68, 85, 67, 84] : List UInt8) then (pannierref10_Of.j0 k a0 t441 a0 (a0.toList == ([80, 82, 79, 68, 85, 67, 84] : List UInt8))) else (pannierref10_Of.j0 k a0 t441 a0 (a0.toList == ([65, 86, 71] : List UInt8)))))
set_option maxHeartbeats 8000000 in
set_option maxRecDepth 100000 in
theorem pannierref10_Of.calls (k : Nat) (a0 : ByteArray) (A1 : Option Addr) (c1 : Nat) (l1 : List (S26)) (r1 : Int) (r2 : Int) (r3 : ByteArray) (r4 : Bool) (w : World) (hr1 : Kd.C k26 w A1 l1.length l1) (hc1 : l1.length ≤ c1) (h : pannierref10_Of.f k a0 l1 = some (r1, r2, r3, r4)) :
    Calls Tryz.prog 7 #[.string a0, .slice A1 l1.length c1] w fun e w' => e = .returned (.agg #[.int .i64 r1, .int .i64 r2, .string r3, .bool r4]) ∧ Below w.heap.size w w' := by
  have hu30 := Tryz.underlying30
  have HR1 := Aside0.mk hr1
  have HC1 := Aside0.mk hc1
  clear hr1 hc1
  have HB := Aside0.mk (Below.refl w.heap.size w)
  have H : ((pannierref10_full.f k l1).bind fun t441 => (if a0.toList = ([83, 85, 77] : List UInt8) then (pannierref10_Of.j0 k a0 t441 a0 (a0.toList == ([83, 85, 77] : List UInt8))) else (if a0.toList = ([80, 82, 79, 68, 85, 67, 84] : List UInt8) then (pannierref10_Of.j0 k a0 t441 a0 (a0.toList == ([80, 82, 79, 68, 85, 67, 84] : List UInt8))) else (pannierref10_Of.j0 k a0 t441 a0 (a0.toList == ([65, 86, 71] : List UInt8)))))) = some (r1, r2, r3, r4) := h
  clear h
  replace H := Option.bind_eq_some_iff.mp H
  obtain ⟨t441, A30, H⟩ := H
  replace H : (if a0.toList = ([83, 85, 77] : List UInt8) then (pannierref10_Of.j0 k a0 t441 a0 (a0.toList == ([83, 85, 77] : List UInt8))) else (if a0.toList = ([80, 82, 79, 68, 85, 67, 84] : List UInt8) then (pannierref10_Of.j0 k a0 t441 a0 (a0.toList == ([80, 82, 79, 68, 85, 67, 84] : List UInt8))) else (pannierref10_Of.j0 k a0 t441 a0 (a0.toList == ([65, 86, 71] : List UInt8))))) = some (r1, r2, r3, r4) := H
  have A3 := Aside0.mk A30
  clear A30
  have HC4 := Aside0.mk H
  clear H
  go_enter Tryz.func7, Tryz.ntmps7
  go_upto_if 10 with (first | ((with_reducible refine gate_dst (N := 4) rfl ?_); refine box_event ?hg (N := 4) ?hd (cs := #[.int .i64 0, .int .i64 0, .string (⟨#[]⟩ : ByteArray), .bool false]) (t := 30) ?hr ?_; (case hd => rfl); (case hg => rfl); (case hr => first | (go_simp; done) | (go_simp; rfl)); intro gb440 hg w5 hbox hb; have n0_ := Aside0.mk (below_step (by repeat first | with_reducible exact HB.out | refine zS ?_ | exact HB.out) hb); have n1_ := Aside0.mk (hbox); have n2_ := Aside0.mk ((by rw [hg]; exact (below_size (by repeat first | with_reducible exact HB.out | refine zS ?_ | exact HB.out)) : w.heap.size ≤ gb440)); have n3_ := n2_; clear HB; have HB := n0_; have BK440 := n1_; have GW440 := n2_; have GE440 := n3_; clear n0_ n1_ n2_ n3_; clear hb hbox hg) | ((with_reducible refine gate_callee (f := 28) rfl ?_); refine goesL_ (some 8) rfl rfl Tryz.func28 (by kernel_rfl) rfl #[.slice A1 l1.length c1] rfl (by (try simp only [List.map_toArray, List.map_cons, List.map_nil]); first | done | rfl | (simp only [List.length_drop, List.length_take]; rfl)) ?_; (with_reducible refine (pannierref10_full.calls k _ _ l1 t441 _ ?side1 ?side2 A3.out).mono ?_); (case side1 => repeat (first | exact (Kd.C_below HR1.out HB.out) | (with_reducible refine Kd.C_alloc ?_ _) | (with_reducible refine Kd.C_drewN ?_ _) | (with_reducible refine Kd.C_drew ?_))); (case side2 => exact HC1.out); rintro e w6 ⟨v442, rfl, ho0, hb⟩; refine ⟨_, rfl, ?_⟩; have n0_ := Aside0.mk (Kd.R_lower ho0 (below_size (by repeat first | with_reducible exact HB.out | refine zS ?_ | refine below_set ?_ GE440.out | exact HB.out))); have n1_ := Aside0.mk (blk_below (g := gb440) (o := .cells #[.int .i64 0, .int .i64 0, .string (⟨#[]⟩ : ByteArray), .bool false] 30 (0, 0)) (zB BK440.out) hb); have n2_ := Aside0.mk (below_step (by repeat first | with_reducible exact HB.out | refine zS ?_ | refine below_set ?_ GE440.out | exact HB.out) hb); clear BK440; clear HB; have HO443 := n0_; have BK440 := n1_; have HB := n2_; clear n0_ n1_ n2_; (try clear hb); (try clear hb2); (try clear hk); (try clear hi); (try clear ho0)))
  (try simp only [Act.put, List.setIfInBounds_toArray, List.set_cons_zero, List.set_cons_succ])
  go_cut [10] (fun v10 wc => ∃ (kq : Nat) (x10_3 : Bool), v10 = .bool x10_3 ∧ Aside0 (pannierref10_Of.j0 kq a0 t441 a0 x10_3 = some (r1, r2, r3, r4)) ∧ Aside0 (kq ≤ k) ∧ Aside0 (Kd.R k26 26 wc w.heap.size (fun _ => True) v442 t441) ∧ Aside0 (wc.heap[gb440]? = some (.cells #[.int .i64 0, .int .i64 0, .string (⟨#[]⟩ : ByteArray), .bool false] 30 (0, 0))) ∧ Aside0 (Below w.heap.size w wc))
  case first =>
    have H := HC4.out
    clear HC4
    by_cases c7 : a0.toList = ([83, 85, 77] : List UInt8)
    · rw [if_pos c7] at H
      have c7b0 : (a0.toList == ([83, 85, 77] : List UInt8)) = true := beq_iff_eq.mpr c7
      have c7b1 : (a0.toList != ([83, 85, 77] : List UInt8)) = false := bne_eq_false_iff_eq.mpr c7
      clear c7
      (first | rw [c7b0] | (simp only [i64_w, i32_w]; rw [c7b0]) | skip)
      have H' := Aside0.mk H
      clear H
      go_wp2
      go_meet
      case rel => exact ⟨_, ((a0.toList == ([83, 85, 77] : List UInt8))), (by first | rfl | (simp; done) | (simp [*]; done)), H', ⟨by first | omega | exact Nat.le_refl _⟩, ⟨by (with_reducible repeat (first | apply Kd.R_alloc | apply Kd.R_drewN | apply Kd.R_drew)); exact HO443.out⟩, ⟨by exact zB BK440.out⟩, ⟨by repeat first | with_reducible exact HB.out | refine zS ?_ | refine below_set ?_ GE440.out | exact HB.out⟩⟩
    · rw [if_neg c7] at H
      have c7b0 : (a0.toList == ([83, 85, 77] : List UInt8)) = false := beq_eq_false_iff_ne.mpr c7
      have c7b1 : (a0.toList != ([83, 85, 77] : List UInt8)) = true := bne_iff_ne.mpr c7
      (first | rw [c7b0] | (simp only [i64_w, i32_w]; rw [c7b0]) | skip)
      by_cases c8 : a0.toList = ([80, 82, 79, 68, 85, 67, 84] : List UInt8)
      · rw [if_pos c8] at H
        have c8b0 : (a0.toList == ([80, 82, 79, 68, 85, 67, 84] : List UInt8)) = true := beq_iff_eq.mpr c8
        have c8b1 : (a0.toList != ([80, 82, 79, 68, 85, 67, 84] : List UInt8)) = false := bne_eq_false_iff_eq.mpr c8
        clear c8
        have H' := Aside0.mk H
        clear H
        go_wp2
        go_meet
        case rel => exact ⟨_, ((a0.toList == ([80, 82, 79, 68, 85, 67, 84] : List UInt8))), (by first | rfl | (simp; done) | (simp [*]; done)), H', ⟨by first | omega | exact Nat.le_refl _⟩, ⟨by (with_reducible repeat (first | apply Kd.R_alloc | apply Kd.R_drewN | apply Kd.R_drew)); exact HO443.out⟩, ⟨by exact zB BK440.out⟩, ⟨by repeat first | with_reducible exact HB.out | refine zS ?_ | refine below_set ?_ GE440.out | exact HB.out⟩⟩
      · rw [if_neg c8] at H
        have c8b0 : (a0.toList == ([80, 82, 79, 68, 85, 67, 84] : List UInt8)) = false := beq_eq_false_iff_ne.mpr c8
        have c8b1 : (a0.toList != ([80, 82, 79, 68, 85, 67, 84] : List UInt8)) = true := bne_iff_ne.mpr c8
        have H' := Aside0.mk H
        clear H
        go_wp2
        go_meet
        case rel => exact ⟨_, ((a0.toList == ([65, 86, 71] : List UInt8))), (by first | rfl | (simp; done) | (simp [*]; done)), H', ⟨by first | omega | exact Nat.le_refl _⟩, ⟨by (with_reducible repeat (first | apply Kd.R_alloc | apply Kd.R_drewN | apply Kd.R_drew)); exact HO443.out⟩, ⟨by exact zB BK440.out⟩, ⟨by repeat first | with_reducible exact HB.out | refine zS ?_ | refine below_set ?_ GE440.out | exact HB.out⟩⟩
  case rest =>
    clear HC4
    try clear c1
    try clear c2
    try clear p2
    try clear c7
    try clear c7b0
    try clear c7b1
    try clear c8
    try clear c8b0
    try clear c8b1
    obtain ⟨kq, x10_3, rfl, HA, HJ3, HO_1, BK440, HB⟩ := hcut
    cases kq with
    | zero => exact absurd HA.out (by simp [pannierref10_Of.j0])
    | succ kj3 =>
      have H := HA.out
      clear HA
      simp only [pannierref10_Of.j0] at H
      by_cases c9 : x10_3 = true
      · subst c9
        have H1 : ((pannierref10_total.f kj3 a0 t441).bind fun bt444 => (some (bt444.1, bt444.2.1, bt444.2.2.1, bt444.2.2.2))) = some (r1, r2, r3, r4) := by rw [if_pos rfl] at H; exact H
        clear H
        have H := H1
        clear H1
        replace H := Option.bind_eq_some_iff.mp H
        obtain ⟨⟨t444, t445, t446, t447⟩, A100, H⟩ := H
        replace H : (some (t444, t445, t446, t447)) = some (r1, r2, r3, r4) := H
        have A10 := Aside0.mk A100
        clear A100
        simp only [Option.some.injEq, Prod.mk.injEq] at H
        obtain ⟨rfl, rfl, rfl, rfl⟩ := H
        obtain ⟨Ao11, co11, eo11⟩ := Kd.R_slice HO_1.out
        subst eo11
        go_wp2_with (first | ((with_reducible refine gate_callee (f := 29) rfl ?_); refine goesL_ (some 16) rfl rfl Tryz.func29 (by kernel_rfl) rfl #[.string a0, .slice Ao11 t441.length co11] rfl (by (try simp only [List.map_toArray, List.map_cons, List.map_nil]); first | done | rfl | (simp only [List.length_drop, List.length_take]; rfl)) ?_; (with_reducible refine (pannierref10_total.calls kj3 a0 _ _ t441 t444 t445 t446 t447 _ ?side1 ?side2 A10.out).mono ?_); (case side1 => repeat (first | exact (Kd.R_reads' HO_1.out).2.2 | (with_reducible refine Kd.C_alloc ?_ _) | (with_reducible refine Kd.C_drewN ?_ _) | (with_reducible refine Kd.C_drew ?_))); (case side2 => exact (Kd.R_reads' HO_1.out).2.1); rintro e w12 ⟨rfl, hb⟩; refine ⟨_, rfl, ?_⟩; have n0_ := Aside0.mk (Kd.R_below (by (with_reducible repeat (first | apply Kd.R_alloc | apply Kd.R_drewN | apply Kd.R_drew)); exact HO_1.out) hb); have n1_ := Aside0.mk (blk_below (g := gb440) (o := .cells #[.int .i64 0, .int .i64 0, .string (⟨#[]⟩ : ByteArray), .bool false] 30 (0, 0)) (zB BK440.out) hb); have n2_ := Aside0.mk (below_step (by repeat first | with_reducible exact HB.out | refine zS ?_ | refine below_set ?_ GE440.out | exact HB.out) hb); clear HO_1; clear BK440; clear HB; have HO_1 := n0_; have BK440 := n1_; have HB := n2_; clear n0_ n1_ n2_; (try clear hb); (try clear hb2); (try clear hk); (try clear hi); obtain ⟨hcz13_0, hcz13_1, hcz13_2, hcz13_3, hfz13_0, hfz13_1, hfz13_2, hfz13_3⟩ := zC4 BK440.out))
        refine bodyPost_ret (results_cell_row rfl _ _ gb440 30 #[.int .i64 t444, .int .i64 t445, .string t446, .bool t447] (0, 0) _ rfl (by refine zB ?_; refine blk_put (cs := #[.int .i64 t444, .int .i64 t445, .string t446, .bool false]) ?_ 3 _ rfl; refine zB ?_; refine blk_put (cs := #[.int .i64 t444, .int .i64 t445, .string (⟨#[]⟩ : ByteArray), .bool false]) ?_ 2 _ rfl; refine zB ?_; refine blk_put (cs := #[.int .i64 t444, .int .i64 0, .string (⟨#[]⟩ : ByteArray), .bool false]) ?_ 1 _ rfl; refine zB ?_; refine blk_put (cs := #[.int .i64 0, .int .i64 0, .string (⟨#[]⟩ : ByteArray), .bool false]) ?_ 0 _ rfl; refine zB ?_; exact BK440.out) Tryz.underlying30 rfl (by kernel_rfl)) rfl ?_
        exact ⟨by first | rfl | (simp [errW_none, errW_some] <;> rfl) | (simp [*, errW_none, errW_some] <;> rfl), by repeat first | with_reducible exact HB.out | refine zS ?_ | refine below_set ?_ GE440.out | exact HB.out⟩
      · replace c9 := Bool.eq_false_iff.mpr c9
        subst c9
        have H1 : (if a0.toList = ([77, 73, 78] : List UInt8) then (pannierref10_Of.j1 kj3 a0 t441 a0 (a0.toList == ([77, 73, 78] : List UInt8))) else (pannierref10_Of.j1 kj3 a0 t441 a0 (a0.toList == ([77, 65, 88] : List UInt8)))) = some (r1, r2, r3, r4) := by rw [if_neg (show ¬ (false = true) by decide)] at H; exact H
        clear H
        have H := H1
        clear H1
        have HC14 := Aside0.mk H
        clear H
        go_upto_if 17 with (fail)
        go_cut [17] (fun v17 wc => ∃ (kq : Nat) (x17_13 : Bool), v17 = .bool x17_13 ∧ Aside0 (pannierref10_Of.j1 kq a0 t441 a0 x17_13 = some (r1, r2, r3, r4)) ∧ Aside0 (kq ≤ kj3) ∧ Aside0 (Kd.R k26 26 wc w.heap.size (fun _ => True) v442 t441) ∧ Aside0 (wc.heap[gb440]? = some (.cells #[.int .i64 0, .int .i64 0, .string (⟨#[]⟩ : ByteArray), .bool false] 30 (0, 0))) ∧ Aside0 (Below w.heap.size w wc))
        case first =>
          have H := HC14.out
          clear HC14
          by_cases c15 : a0.toList = ([77, 73, 78] : List UInt8)
          · rw [if_pos c15] at H
            have c15b0 : (a0.toList == ([77, 73, 78] : List UInt8)) = true := beq_iff_eq.mpr c15
            have c15b1 : (a0.toList != ([77, 73, 78] : List UInt8)) = false := bne_eq_false_iff_eq.mpr c15
            clear c15
            (first | rw [c15b0] | (simp only [i64_w, i32_w]; rw [c15b0]) | skip)
            have H' := Aside0.mk H
            clear H
            go_wp2
            go_meet
            case rel => exact ⟨_, ((a0.toList == ([77, 73, 78] : List UInt8))), (by first | rfl | (simp; done) | (simp [*]; done)), H', ⟨by have := HJ3.out; first | omega | exact Nat.le_refl _⟩, ⟨by (with_reducible repeat (first | apply Kd.R_alloc | apply Kd.R_drewN | apply Kd.R_drew)); exact HO_1.out⟩, ⟨by exact zB BK440.out⟩, ⟨by repeat first | with_reducible exact HB.out | refine zS ?_ | refine below_set ?_ GE440.out | exact HB.out⟩⟩
          · rw [if_neg c15] at H
            have c15b0 : (a0.toList == ([77, 73, 78] : List UInt8)) = false := beq_eq_false_iff_ne.mpr c15
            have c15b1 : (a0.toList != ([77, 73, 78] : List UInt8)) = true := bne_iff_ne.mpr c15
            (first | rw [c15b0] | (simp only [i64_w, i32_w]; rw [c15b0]) | skip)
            have H' := Aside0.mk H
            clear H
            go_wp2
            go_meet
            case rel => exact ⟨_, ((a0.toList == ([77, 65, 88] : List UInt8))), (by first | rfl | (simp; done) | (simp [*]; done)), H', ⟨by have := HJ3.out; first | omega | exact Nat.le_refl _⟩, ⟨by (with_reducible repeat (first | apply Kd.R_alloc | apply Kd.R_drewN | apply Kd.R_drew)); exact HO_1.out⟩, ⟨by exact zB BK440.out⟩, ⟨by repeat first | with_reducible exact HB.out | refine zS ?_ | refine below_set ?_ GE440.out | exact HB.out⟩⟩
        case rest =>
          clear HC14
          try clear c1
          try clear c2
          try clear p2
          try clear c7
          try clear c7b0
          try clear c7b1
          try clear c8
          try clear c8b0
          try clear c8b1
          try clear c9
          try clear c15
          try clear c15b0
          try clear c15b1
          try clear hcz13_0
          try clear hcz13_1
          try clear hcz13_2
          try clear hcz13_3
          try clear hfz13_0
          try clear hfz13_1
          try clear hfz13_2
          try clear hfz13_3
          try clear p2
          obtain ⟨kq, x17_13, rfl, HA, HJ13, HO_1, BK440, HB⟩ := hcut
          cases kq with
          | zero => exact absurd HA.out (by simp [pannierref10_Of.j1])
          | succ kj13 =>
            have H := HA.out
            clear HA
            simp only [pannierref10_Of.j1] at H
            by_cases c16 : x17_13 = true
            · subst c16
              have H1 : ((pannierref10_end.f kj13 a0 t441).bind fun bt448 => (some (bt448.1, bt448.2.1, bt448.2.2.1, bt448.2.2.2))) = some (r1, r2, r3, r4) := by rw [if_pos rfl] at H; exact H
              clear H
              have H := H1
              clear H1
              replace H := Option.bind_eq_some_iff.mp H
              obtain ⟨⟨t448, t449, t450, t451⟩, A170, H⟩ := H
              replace H : (some (t448, t449, t450, t451)) = some (r1, r2, r3, r4) := H
              have A17 := Aside0.mk A170
              clear A170
              simp only [Option.some.injEq, Prod.mk.injEq] at H
              obtain ⟨rfl, rfl, rfl, rfl⟩ := H
              obtain ⟨Ao18, co18, eo18⟩ := Kd.R_slice HO_1.out
              subst eo18
              go_wp2_with (first | ((with_reducible refine gate_callee (f := 30) rfl ?_); refine goesL_ (some 22) rfl rfl Tryz.func30 (by kernel_rfl) rfl #[.string a0, .slice Ao18 t441.length co18] rfl (by (try simp only [List.map_toArray, List.map_cons, List.map_nil]); first | done | rfl | (simp only [List.length_drop, List.length_take]; rfl)) ?_; (with_reducible refine (pannierref10_end.calls kj13 a0 _ _ t441 t448 t449 t450 t451 _ ?side1 ?side2 A17.out).mono ?_); (case side1 => repeat (first | exact (Kd.R_reads' HO_1.out).2.2 | (with_reducible refine Kd.C_alloc ?_ _) | (with_reducible refine Kd.C_drewN ?_ _) | (with_reducible refine Kd.C_drew ?_))); (case side2 => exact (Kd.R_reads' HO_1.out).2.1); rintro e w19 ⟨rfl, hb⟩; refine ⟨_, rfl, ?_⟩; have n0_ := Aside0.mk (Kd.R_below (by (with_reducible repeat (first | apply Kd.R_alloc | apply Kd.R_drewN | apply Kd.R_drew)); exact HO_1.out) hb); have n1_ := Aside0.mk (blk_below (g := gb440) (o := .cells #[.int .i64 0, .int .i64 0, .string (⟨#[]⟩ : ByteArray), .bool false] 30 (0, 0)) (zB BK440.out) hb); have n2_ := Aside0.mk (below_step (by repeat first | with_reducible exact HB.out | refine zS ?_ | refine below_set ?_ GE440.out | exact HB.out) hb); clear HO_1; clear BK440; clear HB; have HO_1 := n0_; have BK440 := n1_; have HB := n2_; clear n0_ n1_ n2_; (try clear hb); (try clear hb2); (try clear hk); (try clear hi); obtain ⟨hcz20_0, hcz20_1, hcz20_2, hcz20_3, hfz20_0, hfz20_1, hfz20_2, hfz20_3⟩ := zC4 BK440.out))
              refine bodyPost_ret (results_cell_row rfl _ _ gb440 30 #[.int .i64 t448, .int .i64 t449, .string t450, .bool t451] (0, 0) _ rfl (by refine zB ?_; refine blk_put (cs := #[.int .i64 t448, .int .i64 t449, .string t450, .bool false]) ?_ 3 _ rfl; refine zB ?_; refine blk_put (cs := #[.int .i64 t448, .int .i64 t449, .string (⟨#[]⟩ : ByteArray), .bool false]) ?_ 2 _ rfl; refine zB ?_; refine blk_put (cs := #[.int .i64 t448, .int .i64 0, .string (⟨#[]⟩ : ByteArray), .bool false]) ?_ 1 _ rfl; refine zB ?_; refine blk_put (cs := #[.int .i64 0, .int .i64 0, .string (⟨#[]⟩ : ByteArray), .bool false]) ?_ 0 _ rfl; refine zB ?_; exact BK440.out) Tryz.underlying30 rfl (by kernel_rfl)) rfl ?_
              exact ⟨by first | rfl | (simp [errW_none, errW_some] <;> rfl) | (simp [*, errW_none, errW_some] <;> rfl), by repeat first | with_reducible exact HB.out | refine zS ?_ | refine below_set ?_ GE440.out | exact HB.out⟩
            · replace c16 := Bool.eq_false_iff.mpr c16
              subst c16
              have H1 : (if a0.toList = ([65, 78, 68] : List UInt8) then (pannierref10_Of.j2 kj13 a0 t441 a0 (a0.toList == ([65, 78, 68] : List UInt8))) else (pannierref10_Of.j2 kj13 a0 t441 a0 (a0.toList == ([79, 82] : List UInt8)))) = some (r1, r2, r3, r4) := by rw [if_neg (show ¬ (false = true) by decide)] at H; exact H
              clear H
              have H := H1
              clear H1
              have HC21 := Aside0.mk H
              clear H
              go_upto_if 23 with (fail)
              go_cut [23] (fun v23 wc => ∃ (kq : Nat) (x23_20 : Bool), v23 = .bool x23_20 ∧ Aside0 (pannierref10_Of.j2 kq a0 t441 a0 x23_20 = some (r1, r2, r3, r4)) ∧ Aside0 (kq ≤ kj13) ∧ Aside0 (Kd.R k26 26 wc w.heap.size (fun _ => True) v442 t441) ∧ Aside0 (wc.heap[gb440]? = some (.cells #[.int .i64 0, .int .i64 0, .string (⟨#[]⟩ : ByteArray), .bool false] 30 (0, 0))) ∧ Aside0 (Below w.heap.size w wc))
              case first =>
                have H := HC21.out
                clear HC21
                by_cases c22 : a0.toList = ([65, 78, 68] : List UInt8)
                · rw [if_pos c22] at H
                  have c22b0 : (a0.toList == ([65, 78, 68] : List UInt8)) = true := beq_iff_eq.mpr c22
                  have c22b1 : (a0.toList != ([65, 78, 68] : List UInt8)) = false := bne_eq_false_iff_eq.mpr c22
                  clear c22
                  (first | rw [c22b0] | (simp only [i64_w, i32_w]; rw [c22b0]) | skip)
                  have H' := Aside0.mk H
                  clear H
                  go_wp2
                  go_meet
                  case rel => exact ⟨_, ((a0.toList == ([65, 78, 68] : List UInt8))), (by first | rfl | (simp; done) | (simp [*]; done)), H', ⟨by have := HJ3.out; have := HJ13.out; first | omega | exact Nat.le_refl _⟩, ⟨by (with_reducible repeat (first | apply Kd.R_alloc | apply Kd.R_drewN | apply Kd.R_drew)); exact HO_1.out⟩, ⟨by exact zB BK440.out⟩, ⟨by repeat first | with_reducible exact HB.out | refine zS ?_ | refine below_set ?_ GE440.out | exact HB.out⟩⟩
                · rw [if_neg c22] at H
                  have c22b0 : (a0.toList == ([65, 78, 68] : List UInt8)) = false := beq_eq_false_iff_ne.mpr c22
                  have c22b1 : (a0.toList != ([65, 78, 68] : List UInt8)) = true := bne_iff_ne.mpr c22
                  (first | rw [c22b0] | (simp only [i64_w, i32_w]; rw [c22b0]) | skip)
                  have H' := Aside0.mk H
                  clear H
                  go_wp2
                  go_meet
                  case rel => exact ⟨_, ((a0.toList == ([79, 82] : List UInt8))), (by first | rfl | (simp; done) | (simp [*]; done)), H', ⟨by have := HJ3.out; have := HJ13.out; first | omega | exact Nat.le_refl _⟩, ⟨by (with_reducible repeat (first | apply Kd.R_alloc | apply Kd.R_drewN | apply Kd.R_drew)); exact HO_1.out⟩, ⟨by exact zB BK440.out⟩, ⟨by repeat first | with_reducible exact HB.out | refine zS ?_ | refine below_set ?_ GE440.out | exact HB.out⟩⟩
              case rest =>
                clear HC21
                try clear c1
                try clear c2
                try clear p2
                try clear c3
                try clear c7
                try clear c7b0
                try clear c7b1
                try clear c8
                try clear c8b0
                try clear c8b1
                try clear c9
                try clear c15
                try clear c15b0
                try clear c15b1
                try clear c16
                try clear c22
                try clear c22b0
                try clear c22b1
                try clear hcz13_0
                try clear hcz13_1
                try clear hcz13_2
                try clear hcz13_3
                try clear hcz20_0
                try clear hcz20_1
                try clear hcz20_2
                try clear hcz20_3
                try clear hfz13_0
                try clear hfz13_1
                try clear hfz13_2
                try clear hfz13_3
                try clear hfz20_0
                try clear hfz20_1
                try clear hfz20_2
                try clear hfz20_3
                try clear p2
                obtain ⟨kq, x23_20, rfl, HA, HJ20, HO_1, BK440, HB⟩ := hcut
                cases kq with
                | zero => exact absurd HA.out (by simp [pannierref10_Of.j2])
                | succ kj20 =>
                  have H := HA.out
                  clear HA
                  simp only [pannierref10_Of.j2] at H
                  by_cases c23 : x23_20 = true
                  · subst c23
                    have H1 : ((pannierref10_truth.f kj20 a0 t441).bind fun bt452 => (some (bt452.1, bt452.2.1, bt452.2.2.1, bt452.2.2.2))) = some (r1, r2, r3, r4) := by rw [if_pos rfl] at H; exact H
                    clear H
                    have H := H1
                    clear H1
                    replace H := Option.bind_eq_some_iff.mp H
                    obtain ⟨⟨t452, t453, t454, t455⟩, A240, H⟩ := H
                    replace H : (some (t452, t453, t454, t455)) = some (r1, r2, r3, r4) := H
                    have A24 := Aside0.mk A240
                    clear A240
                    simp only [Option.some.injEq, Prod.mk.injEq] at H
                    obtain ⟨rfl, rfl, rfl, rfl⟩ := H
                    obtain ⟨Ao25, co25, eo25⟩ := Kd.R_slice HO_1.out
                    subst eo25
                    go_wp2_with (first | ((with_reducible refine gate_callee (f := 31) rfl ?_); refine goesL_ (some 28) rfl rfl Tryz.func31 (by kernel_rfl) rfl #[.string a0, .slice Ao25 t441.length co25] rfl (by (try simp only [List.map_toArray, List.map_cons, List.map_nil]); first | done | rfl | (simp only [List.length_drop, List.length_take]; rfl)) ?_; (with_reducible refine (pannierref10_truth.calls kj20 a0 _ _ t441 t452 t453 t454 t455 _ ?side1 ?side2 A24.out).mono ?_); (case side1 => repeat (first | exact (Kd.R_reads' HO_1.out).2.2 | (with_reducible refine Kd.C_alloc ?_ _) | (with_reducible refine Kd.C_drewN ?_ _) | (with_reducible refine Kd.C_drew ?_))); (case side2 => exact (Kd.R_reads' HO_1.out).2.1); rintro e w26 ⟨rfl, hb⟩; refine ⟨_, rfl, ?_⟩; have n0_ := Aside0.mk (Kd.R_below (by (with_reducible repeat (first | apply Kd.R_alloc | apply Kd.R_drewN | apply Kd.R_drew)); exact HO_1.out) hb); have n1_ := Aside0.mk (blk_below (g := gb440) (o := .cells #[.int .i64 0, .int .i64 0, .string (⟨#[]⟩ : ByteArray), .bool false] 30 (0, 0)) (zB BK440.out) hb); have n2_ := Aside0.mk (below_step (by repeat first | with_reducible exact HB.out | refine zS ?_ | refine below_set ?_ GE440.out | exact HB.out) hb); clear HO_1; clear BK440; clear HB; have HO_1 := n0_; have BK440 := n1_; have HB := n2_; clear n0_ n1_ n2_; (try clear hb); (try clear hb2); (try clear hk); (try clear hi); obtain ⟨hcz27_0, hcz27_1, hcz27_2, hcz27_3, hfz27_0, hfz27_1, hfz27_2, hfz27_3⟩ := zC4 BK440.out))
                    refine bodyPost_ret (results_cell_row rfl _ _ gb440 30 #[.int .i64 t452, .int .i64 t453, .string t454, .bool t455] (0, 0) _ rfl (by refine zB ?_; refine blk_put (cs := #[.int .i64 t452, .int .i64 t453, .string t454, .bool false]) ?_ 3 _ rfl; refine zB ?_; refine blk_put (cs := #[.int .i64 t452, .int .i64 t453, .string (⟨#[]⟩ : ByteArray), .bool false]) ?_ 2 _ rfl; refine zB ?_; refine blk_put (cs := #[.int .i64 t452, .int .i64 0, .string (⟨#[]⟩ : ByteArray), .bool false]) ?_ 1 _ rfl; refine zB ?_; refine blk_put (cs := #[.int .i64 0, .int .i64 0, .string (⟨#[]⟩ : ByteArray), .bool false]) ?_ 0 _ rfl; refine zB ?_; exact BK440.out) Tryz.underlying30 rfl (by kernel_rfl)) rfl ?_
                    exact ⟨by first | rfl | (simp [errW_none, errW_some] <;> rfl) | (simp [*, errW_none, errW_some] <;> rfl), by repeat first | with_reducible exact HB.out | refine zS ?_ | refine below_set ?_ GE440.out | exact HB.out⟩
                  · replace c23 := Bool.eq_false_iff.mpr c23
                    subst c23
                    have H1 : (if a0.toList = ([74, 79, 73, 78] : List UInt8) then ((pannierref10_join.f kj20 t441).bind fun bt456 => (some (bt456.1, bt456.2.1, bt456.2.2.1, bt456.2.2.2))) else (if a0.toList = ([67, 79, 85, 78, 84] : List UInt8) then (pannierref10_Of.l0 kj20 t441 0 0) else (if a0.toList = ([67, 79, 85, 78, 84, 65] : List UInt8) then ((pannierref10_num.f (t441.length : Int)).bind fun bt465 => (some (bt465.1, bt465.2.1, bt465.2.2.1, bt465.2.2.2))) else (some (0, 0, (⟨#[]⟩ : ByteArray), false))))) = some (r1, r2, r3, r4) := by rw [if_neg (show ¬ (false = true) by decide)] at H; exact H
                    clear H
                    have H := H1
                    clear H1
                    by_cases c28 : a0.toList = ([74, 79, 73, 78] : List UInt8)
                    · rw [if_pos c28] at H
                      have c28b0 : (a0.toList == ([74, 79, 73, 78] : List UInt8)) = true := beq_iff_eq.mpr c28
                      have c28b1 : (a0.toList != ([74, 79, 73, 78] : List UInt8)) = false := bne_eq_false_iff_eq.mpr c28
                      clear c28
                      replace H := Option.bind_eq_some_iff.mp H
                      obtain ⟨⟨t456, t457, t458, t459⟩, A290, H⟩ := H
                      replace H : (some (t456, t457, t458, t459)) = some (r1, r2, r3, r4) := H
                      have A29 := Aside0.mk A290
                      clear A290
                      simp only [Option.some.injEq, Prod.mk.injEq] at H
                      obtain ⟨rfl, rfl, rfl, rfl⟩ := H
                      obtain ⟨Ao30, co30, eo30⟩ := Kd.R_slice HO_1.out
                      subst eo30
                      go_wp2_with (first | ((with_reducible refine gate_callee (f := 32) rfl ?_); refine goesL_ (some 32) rfl rfl Tryz.func32 (by kernel_rfl) rfl #[.slice Ao30 t441.length co30] rfl (by (try simp only [List.map_toArray, List.map_cons, List.map_nil]); first | done | rfl | (simp only [List.length_drop, List.length_take]; rfl)) ?_; (with_reducible refine (pannierref10_join.calls kj20 _ _ t441 t456 t457 t458 t459 _ ?side1 ?side2 A29.out).mono ?_); (case side1 => repeat (first | exact (Kd.R_reads' HO_1.out).2.2 | (with_reducible refine Kd.C_alloc ?_ _) | (with_reducible refine Kd.C_drewN ?_ _) | (with_reducible refine Kd.C_drew ?_))); (case side2 => exact (Kd.R_reads' HO_1.out).2.1); rintro e w31 ⟨rfl, hb⟩; refine ⟨_, rfl, ?_⟩; have n0_ := Aside0.mk (Kd.R_below (by (with_reducible repeat (first | apply Kd.R_alloc | apply Kd.R_drewN | apply Kd.R_drew)); exact HO_1.out) hb); have n1_ := Aside0.mk (blk_below (g := gb440) (o := .cells #[.int .i64 0, .int .i64 0, .string (⟨#[]⟩ : ByteArray), .bool false] 30 (0, 0)) (zB BK440.out) hb); have n2_ := Aside0.mk (below_step (by repeat first | with_reducible exact HB.out | refine zS ?_ | refine below_set ?_ GE440.out | exact HB.out) hb); clear HO_1; clear BK440; clear HB; have HO_1 := n0_; have BK440 := n1_; have HB := n2_; clear n0_ n1_ n2_; (try clear hb); (try clear hb2); (try clear hk); (try clear hi); obtain ⟨hcz32_0, hcz32_1, hcz32_2, hcz32_3, hfz32_0, hfz32_1, hfz32_2, hfz32_3⟩ := zC4 BK440.out))
                      refine bodyPost_ret (results_cell_row rfl _ _ gb440 30 #[.int .i64 t456, .int .i64 t457, .string t458, .bool t459] (0, 0) _ rfl (by refine zB ?_; refine blk_put (cs := #[.int .i64 t456, .int .i64 t457, .string t458, .bool false]) ?_ 3 _ rfl; refine zB ?_; refine blk_put (cs := #[.int .i64 t456, .int .i64 t457, .string (⟨#[]⟩ : ByteArray), .bool false]) ?_ 2 _ rfl; refine zB ?_; refine blk_put (cs := #[.int .i64 t456, .int .i64 0, .string (⟨#[]⟩ : ByteArray), .bool false]) ?_ 1 _ rfl; refine zB ?_; refine blk_put (cs := #[.int .i64 0, .int .i64 0, .string (⟨#[]⟩ : ByteArray), .bool false]) ?_ 0 _ rfl; refine zB ?_; exact BK440.out) Tryz.underlying30 rfl (by kernel_rfl)) rfl ?_
                      exact ⟨by first | rfl | (simp [errW_none, errW_some] <;> rfl) | (simp [*, errW_none, errW_some] <;> rfl), by repeat first | with_reducible exact HB.out | refine zS ?_ | refine below_set ?_ GE440.out | exact HB.out⟩
                    · rw [if_neg c28] at H
                      have c28b0 : (a0.toList == ([74, 79, 73, 78] : List UInt8)) = false := beq_eq_false_iff_ne.mpr c28
                      have c28b1 : (a0.toList != ([74, 79, 73, 78] : List UInt8)) = true := bne_iff_ne.mpr c28
                      by_cases c33 : a0.toList = ([67, 79, 85, 78, 84] : List UInt8)
                      · rw [if_pos c33] at H
                        have c33b0 : (a0.toList == ([67, 79, 85, 78, 84] : List UInt8)) = true := beq_iff_eq.mpr c33
                        have c33b1 : (a0.toList != ([67, 79, 85, 78, 84] : List UInt8)) = false := bne_eq_false_iff_eq.mpr c33
                        clear c33
                        have H' := Aside0.mk H
                        clear H
                        go_wp2
                        go_loopg [5, 6] kj20 (fun kq v5 v6 w' => ∃ (x5_4 : Int) (x6_4 : Int), v5 = .int .i64 x5_4 ∧ v6 = .int .i64 x6_4 ∧ Aside0 (pannierref10_Of.l0 kq t441 x5_4 x6_4 = some (r1, r2, r3, r4)) ∧ Aside0 (kq ≤ kj20) ∧ Aside0 (Kd.R k26 26 w' w.heap.size (fun _ => True) v442 t441) ∧ Aside0 (w'.heap[gb440]? = some (.cells #[.int .i64 0, .int .i64 0, .string (⟨#[]⟩ : ByteArray), .bool false] 30 (0, 0))) ∧ Aside0 (Below w.heap.size w w'))
                        case atStart => exact ⟨(0), (0), (by first | rfl | (simp; done) | (simp [*]; done)), (by first | rfl | (simp; done) | (simp [*]; done)), H', ⟨Nat.le_refl _⟩, ⟨by (with_reducible repeat (first | apply Kd.R_alloc | apply Kd.R_drewN | apply Kd.R_drew)); exact HO_1.out⟩, ⟨by exact zB BK440.out⟩, ⟨by repeat first | with_reducible exact HB.out | refine zS ?_ | refine below_set ?_ GE440.out | exact HB.out⟩⟩
                        case round =>
                          clear H'
                          try clear c1
                          try clear c2
                          try clear p2
                          try clear c3
                          try clear c7
                          try clear c7b0
                          try clear c7b1
                          try clear c8
                          try clear c8b0
                          try clear c8b1
                          try clear c9
                          try clear c15
                          try clear c15b0
                          try clear c15b1
                          try clear c16
                          try clear c22
                          try clear c22b0
                          try clear c22b1
                          try clear c23
                          try clear c28
                          try clear c28b0
                          try clear c28b1
                          try clear c29
                          try clear c30
                          try clear c31
                          try clear c32
                          try clear c33
                          try clear c33b0
                          try clear c33b1
                          try clear hcz13_0
                          try clear hcz13_1
                          try clear hcz13_2
                          try clear hcz13_3
                          try clear hcz20_0
                          try clear hcz20_1
                          try clear hcz20_2
                          try clear hcz20_3
                          try clear hcz27_0
                          try clear hcz27_1
                          try clear hcz27_2
                          try clear hcz27_3
                          try clear hcz32_0
                          try clear hcz32_1
                          try clear hcz32_2
                          try clear hcz32_3
                          try clear hfz13_0
                          try clear hfz13_1
                          try clear hfz13_2
                          try clear hfz13_3
                          try clear hfz20_0
                          try clear hfz20_1
                          try clear hfz20_2
                          try clear hfz20_3
                          try clear hfz27_0
                          try clear hfz27_1
                          try clear hfz27_2
                          try clear hfz27_3
                          try clear hfz32_0
                          try clear hfz32_1
                          try clear hfz32_2
                          try clear hfz32_3
                          try clear p2
                          obtain ⟨x5_4, x6_4, rfl, rfl, HA, HK4, HO_1, BK440, HB⟩ := hrel
                          cases gk with
                          | zero => exact absurd HA.out (by simp [pannierref10_Of.l0])
                          | succ k4 =>
                            have H := HA.out
                            clear HA
                            simp only [pannierref10_Of.l0] at H
                            by_cases c34 : x6_4 < (t441.length : Int)
                            · rw [if_pos c34] at H
                              have c34b0 : decide (x6_4 < (t441.length : Int)) = true := decide_eq_true c34
                              clear c34
                              by_cases c35 : 0 ≤ x6_4
                              · rw [if_pos c35] at H
                                have c35b0 : decide (0 ≤ x6_4) = true := decide_eq_true c35
                                clear c35
                                by_cases c36 : ((rd_T26 t441 x6_4).f0) = 2
                                · rw [if_pos c36] at H
                                  have c36b0 : (((rd_T26 t441 x6_4).f0) == 2) = true := beq_iff_eq.mpr c36
                                  have c36b1 : (((rd_T26 t441 x6_4).f0) != 2) = false := bne_eq_false_iff_eq.mpr c36
                                  clear c36
                                  have H' := Aside0.mk H
                                  clear H
                                  obtain ⟨Ao37, co37, eo37⟩ := Kd.R_slice HO_1.out
                                  subst eo37
                                  have p460 : 0 ≤ (x6_4 : Int) := of_decide_eq_true (by first | (with_reducible assumption) | assumption)
                                  have q460 : x6_4 < (t441.length : Int) := of_decide_eq_true (by first | (with_reducible assumption) | assumption)
                                  obtain ⟨ad460, e460, hx460_0, hx460_1, hx460_2⟩ := at_T26 (Kd.R_reads' HO_1.out).2.2 x6_4 p460 q460
                                  cases e460
                                  replace p460 := eq_true p460
                                  replace q460 := eq_true q460
                                  go_wp2
                                  go_roundg k4
                                  case measure => have := HJ3.out; have := HJ13.out; have := HJ20.out; have := HK4.out; omega
                                  case rel => exact ⟨(wrap64 (x5_4 + 1)), (wrap64 (x6_4 + 1)), (by first | rfl | (simp; done) | (simp [*]; done)), (by first | rfl | (simp; done) | (simp [*]; done)), H', ⟨by have := HJ3.out; have := HJ13.out; have := HJ20.out; have := HK4.out; omega⟩, ⟨by (with_reducible repeat (first | apply Kd.R_alloc | apply Kd.R_drewN | apply Kd.R_drew)); exact HO_1.out⟩, ⟨by exact zB BK440.out⟩, ⟨by repeat first | with_reducible exact HB.out | refine zS ?_ | refine below_set ?_ GE440.out | exact HB.out⟩⟩
                                · rw [if_neg c36] at H
                                  have c36b0 : (((rd_T26 t441 x6_4).f0) == 2) = false := beq_eq_false_iff_ne.mpr c36
                                  have c36b1 : (((rd_T26 t441 x6_4).f0) != 2) = true := bne_iff_ne.mpr c36
                                  have H' := Aside0.mk H
                                  clear H
                                  obtain ⟨Ao38, co38, eo38⟩ := Kd.R_slice HO_1.out
                                  subst eo38
                                  have p460 : 0 ≤ (x6_4 : Int) := of_decide_eq_true (by first | (with_reducible assumption) | assumption)
                                  have q460 : x6_4 < (t441.length : Int) := of_decide_eq_true (by first | (with_reducible assumption) | assumption)
                                  obtain ⟨ad460, e460, hx460_0, hx460_1, hx460_2⟩ := at_T26 (Kd.R_reads' HO_1.out).2.2 x6_4 p460 q460
                                  cases e460
                                  replace p460 := eq_true p460
                                  replace q460 := eq_true q460
                                  go_wp2
                                  go_roundg k4
                                  case measure => have := HJ3.out; have := HJ13.out; have := HJ20.out; have := HK4.out; omega
                                  case rel => exact ⟨(x5_4), (wrap64 (x6_4 + 1)), (by first | rfl | (simp; done) | (simp [*]; done)), (by first | rfl | (simp; done) | (simp [*]; done)), H', ⟨by have := HJ3.out; have := HJ13.out; have := HJ20.out; have := HK4.out; omega⟩, ⟨by (with_reducible repeat (first | apply Kd.R_alloc | apply Kd.R_drewN | apply Kd.R_drew)); exact HO_1.out⟩, ⟨by exact zB BK440.out⟩, ⟨by repeat first | with_reducible exact HB.out | refine zS ?_ | refine below_set ?_ GE440.out | exact HB.out⟩⟩
                              · rw [if_neg c35] at H
                                exact absurd H (by simp)
                            · rw [if_neg c34] at H
                              have c34b0 : decide (x6_4 < (t441.length : Int)) = false := decide_eq_false c34
                              clear c34
                              replace H := Option.bind_eq_some_iff.mp H
                              obtain ⟨⟨t461, t462, t463, t464⟩, A390, H⟩ := H
                              replace H : (some (t461, t462, t463, t464)) = some (r1, r2, r3, r4) := H
                              have A39 := Aside0.mk A390
                              clear A390
                              simp only [Option.some.injEq, Prod.mk.injEq] at H
                              obtain ⟨rfl, rfl, rfl, rfl⟩ := H
                              obtain ⟨Ao40, co40, eo40⟩ := Kd.R_slice HO_1.out
                              subst eo40
                              go_wp2_with (first | ((with_reducible refine gate_callee (f := 33) rfl ?_); refine goesL_ (some 50) rfl rfl Tryz.func33 (by kernel_rfl) rfl #[.int .i64 x5_4] rfl (by (try simp only [List.map_toArray, List.map_cons, List.map_nil]); first | done | rfl | (simp only [List.length_drop, List.length_take]; rfl)) ?_; (with_reducible refine (pannierref10_num.calls x5_4 t461 t462 t463 t464 _ A39.out).mono ?_); rintro e w41 ⟨rfl, hb⟩; refine ⟨_, rfl, ?_⟩; have n0_ := Aside0.mk (Kd.R_below (by (with_reducible repeat (first | apply Kd.R_alloc | apply Kd.R_drewN | apply Kd.R_drew)); exact HO_1.out) hb); have n1_ := Aside0.mk (blk_below (g := gb440) (o := .cells #[.int .i64 0, .int .i64 0, .string (⟨#[]⟩ : ByteArray), .bool false] 30 (0, 0)) (zB BK440.out) hb); have n2_ := Aside0.mk (below_step (by repeat first | with_reducible exact HB.out | refine zS ?_ | refine below_set ?_ GE440.out | exact HB.out) hb); clear HO_1; clear BK440; clear HB; have HO_1 := n0_; have BK440 := n1_; have HB := n2_; clear n0_ n1_ n2_; (try clear hb); (try clear hb2); (try clear hk); (try clear hi); obtain ⟨hcz42_0, hcz42_1, hcz42_2, hcz42_3, hfz42_0, hfz42_1, hfz42_2, hfz42_3⟩ := zC4 BK440.out))
                              refine bodyPost_ret (results_cell_row rfl _ _ gb440 30 #[.int .i64 t461, .int .i64 t462, .string t463, .bool t464] (0, 0) _ rfl (by refine zB ?_; refine blk_put (cs := #[.int .i64 t461, .int .i64 t462, .string t463, .bool false]) ?_ 3 _ rfl; refine zB ?_; refine blk_put (cs := #[.int .i64 t461, .int .i64 t462, .string (⟨#[]⟩ : ByteArray), .bool false]) ?_ 2 _ rfl; refine zB ?_; refine blk_put (cs := #[.int .i64 t461, .int .i64 0, .string (⟨#[]⟩ : ByteArray), .bool false]) ?_ 1 _ rfl; refine zB ?_; refine blk_put (cs := #[.int .i64 0, .int .i64 0, .string (⟨#[]⟩ : ByteArray), .bool false]) ?_ 0 _ rfl; refine zB ?_; exact BK440.out) Tryz.underlying30 rfl (by kernel_rfl)) rfl ?_
                              exact ⟨by first | rfl | (simp [errW_none, errW_some] <;> rfl) | (simp [*, errW_none, errW_some] <;> rfl), by repeat first | with_reducible exact HB.out | refine zS ?_ | refine below_set ?_ GE440.out | exact HB.out⟩
                      · rw [if_neg c33] at H
                        have c33b0 : (a0.toList == ([67, 79, 85, 78, 84] : List UInt8)) = false := beq_eq_false_iff_ne.mpr c33
                        have c33b1 : (a0.toList != ([67, 79, 85, 78, 84] : List UInt8)) = true := bne_iff_ne.mpr c33
                        by_cases c43 : a0.toList = ([67, 79, 85, 78, 84, 65] : List UInt8)
                        · rw [if_pos c43] at H
                          have c43b0 : (a0.toList == ([67, 79, 85, 78, 84, 65] : List UInt8)) = true := beq_iff_eq.mpr c43
                          have c43b1 : (a0.toList != ([67, 79, 85, 78, 84, 65] : List UInt8)) = false := bne_eq_false_iff_eq.mpr c43
                          clear c43
                          replace H := Option.bind_eq_some_iff.mp H
                          obtain ⟨⟨t465, t466, t467, t468⟩, A440, H⟩ := H
                          replace H : (some (t465, t466, t467, t468)) = some (r1, r2, r3, r4) := H
                          have A44 := Aside0.mk A440
                          clear A440
                          simp only [Option.some.injEq, Prod.mk.injEq] at H
                          obtain ⟨rfl, rfl, rfl, rfl⟩ := H
                          obtain ⟨Ao45, co45, eo45⟩ := Kd.R_slice HO_1.out
                          subst eo45
                          go_wp2_with (first | ((with_reducible refine gate_callee (f := 33) rfl ?_); refine goesL_ (some 55) rfl rfl Tryz.func33 (by kernel_rfl) rfl #[.int .i64 (t441.length : Int)] rfl (by (try simp only [List.map_toArray, List.map_cons, List.map_nil]); first | done | rfl | (simp only [List.length_drop, List.length_take]; rfl)) ?_; (with_reducible refine (pannierref10_num.calls (t441.length : Int) t465 t466 t467 t468 _ A44.out).mono ?_); rintro e w46 ⟨rfl, hb⟩; refine ⟨_, rfl, ?_⟩; have n0_ := Aside0.mk (Kd.R_below (by (with_reducible repeat (first | apply Kd.R_alloc | apply Kd.R_drewN | apply Kd.R_drew)); exact HO_1.out) hb); have n1_ := Aside0.mk (blk_below (g := gb440) (o := .cells #[.int .i64 0, .int .i64 0, .string (⟨#[]⟩ : ByteArray), .bool false] 30 (0, 0)) (zB BK440.out) hb); have n2_ := Aside0.mk (below_step (by repeat first | with_reducible exact HB.out | refine zS ?_ | refine below_set ?_ GE440.out | exact HB.out) hb); clear HO_1; clear BK440; clear HB; have HO_1 := n0_; have BK440 := n1_; have HB := n2_; clear n0_ n1_ n2_; (try clear hb); (try clear hb2); (try clear hk); (try clear hi); obtain ⟨hcz47_0, hcz47_1, hcz47_2, hcz47_3, hfz47_0, hfz47_1, hfz47_2, hfz47_3⟩ := zC4 BK440.out))
                          refine bodyPost_ret (results_cell_row rfl _ _ gb440 30 #[.int .i64 t465, .int .i64 t466, .string t467, .bool t468] (0, 0) _ rfl (by refine zB ?_; refine blk_put (cs := #[.int .i64 t465, .int .i64 t466, .string t467, .bool false]) ?_ 3 _ rfl; refine zB ?_; refine blk_put (cs := #[.int .i64 t465, .int .i64 t466, .string (⟨#[]⟩ : ByteArray), .bool false]) ?_ 2 _ rfl; refine zB ?_; refine blk_put (cs := #[.int .i64 t465, .int .i64 0, .string (⟨#[]⟩ : ByteArray), .bool false]) ?_ 1 _ rfl; refine zB ?_; refine blk_put (cs := #[.int .i64 0, .int .i64 0, .string (⟨#[]⟩ : ByteArray), .bool false]) ?_ 0 _ rfl; refine zB ?_; exact BK440.out) Tryz.underlying30 rfl (by kernel_rfl)) rfl ?_
                          exact ⟨by first | rfl | (simp [errW_none, errW_some] <;> rfl) | (simp [*, errW_none, errW_some] <;> rfl), by repeat first | with_reducible exact HB.out | refine zS ?_ | refine below_set ?_ GE440.out | exact HB.out⟩
                        · rw [if_neg c43] at H
                          have c43b0 : (a0.toList == ([67, 79, 85, 78, 84, 65] : List UInt8)) = false := beq_eq_false_iff_ne.mpr c43
                          have c43b1 : (a0.toList != ([67, 79, 85, 78, 84, 65] : List UInt8)) = true := bne_iff_ne.mpr c43
                          simp only [Option.some.injEq, Prod.mk.injEq] at H
                          obtain ⟨rfl, rfl, rfl, rfl⟩ := H
                          have hcz48_0 : wc.cell? ⟨gb440, 0, none⟩ = some (.int .i64 0) := (blk_cell BK440.out 0).trans rfl
                          have hcz48_1 : wc.cell? ⟨gb440, 1, none⟩ = some (.int .i64 0) := (blk_cell BK440.out 1).trans rfl
                          have hcz48_2 : wc.cell? ⟨gb440, 2, none⟩ = some (.string (⟨#[]⟩ : ByteArray)) := (blk_cell BK440.out 2).trans rfl
                          have hcz48_3 : wc.cell? ⟨gb440, 3, none⟩ = some (.bool false) := (blk_cell BK440.out 3).trans rfl
                          have hfz48_0 := blk_frozen BK440.out 0
                          have hfz48_1 := blk_frozen BK440.out 1
                          have hfz48_2 := blk_frozen BK440.out 2
                          have hfz48_3 := blk_frozen BK440.out 3
                          go_wp2
                          refine bodyPost_ret (results_cell_row rfl _ _ gb440 30 #[.int .i64 0, .int .i64 0, .string (⟨#[]⟩ : ByteArray), .bool false] (0, 0) _ rfl (by refine zB ?_; refine blk_put (cs := #[.int .i64 0, .int .i64 0, .string (⟨#[]⟩ : ByteArray), .bool false]) ?_ 3 _ rfl; refine zB ?_; refine blk_put (cs := #[.int .i64 0, .int .i64 0, .string (⟨#[]⟩ : ByteArray), .bool false]) ?_ 2 _ rfl; refine zB ?_; refine blk_put (cs := #[.int .i64 0, .int .i64 0, .string (⟨#[]⟩ : ByteArray), .bool false]) ?_ 1 _ rfl; refine zB ?_; refine blk_put (cs := #[.int .i64 0, .int .i64 0, .string (⟨#[]⟩ : ByteArray), .bool false]) ?_ 0 _ rfl; refine zB ?_; exact BK440.out) Tryz.underlying30 rfl (by kernel_rfl)) rfl ?_
                          exact ⟨by first | rfl | (simp [errW_none, errW_some] <;> rfl) | (simp [*, errW_none, errW_some] <;> rfl), by repeat first | with_reducible exact HB.out | refine zS ?_ | refine below_set ?_ GE440.out | exact HB.out⟩
end Go.Proofs.YtmdmpafdpgdpoaaGreatDoor.P

namespace Go.Proofs.YtmdmpafdpgdpoaaGreatDoor.P
open Go.RowKit Go.Proofs.YtmdmpafdpgdpoaaGreatDoorW.PrintWords Go.Proofs.YtmdmpafdpgdpoaaGreatDoorW.PrintLast Go.Proofs.YtmdmpafdpgdpoaaGreatDoorW.PrintMore
attribute [local go_sem] max2_int min2_int max_two min_two max_three min_three max_four min_four   -- for this text's walks alone
set_option linter.unusedVariables false
set_option linter.unusedSimpArgs false
def pannierkeep_Value.f (a0_0 : Int) (a0_1 : Int) (a0_2 : ByteArray) (a1_0 : Int) (a1_1 : Int) (a1_2 : ByteArray) : Option (Bool) := if a0_0 = a1_0 then (if a0_1 = a1_1 then (some (a0_2.toList == a1_2.toList)) else (some false)) else (some false)
set_option maxHeartbeats 8000000 in
set_option maxRecDepth 100000 in
theorem pannierkeep_Value.calls (a0_0 : Int) (a0_1 : Int) (a0_2 : ByteArray) (a1_0 : Int) (a1_1 : Int) (a1_2 : ByteArray) (r : Bool) (w : World) (h : pannierkeep_Value.f a0_0 a0_1 a0_2 a1_0 a1_1 a1_2 = some r) :
    Calls Tryz.prog 8 #[.agg #[.int .i64 a0_0, .int .i64 a0_1, .string a0_2], .agg #[.int .i64 a1_0, .int .i64 a1_1, .string a1_2]] w fun e w' => e = .returned (.bool r) ∧ Below w.heap.size w w' := by
  have hu26 := Tryz.underlying26
  have HB := Aside0.mk (Below.refl w.heap.size w)
  have H : (if a0_0 = a1_0 then (if a0_1 = a1_1 then (some (a0_2.toList == a1_2.toList)) else (some false)) else (some false)) = some r := h
  clear h
  by_cases c3 : a0_0 = a1_0
  · rw [if_pos c3] at H
    have c3b0 : (a0_0 == a1_0) = true := beq_iff_eq.mpr c3
    have c3b1 : (a0_0 != a1_0) = false := bne_eq_false_iff_eq.mpr c3
    clear c3
    by_cases c4 : a0_1 = a1_1
    · rw [if_pos c4] at H
      have c4b0 : (a0_1 == a1_1) = true := beq_iff_eq.mpr c4
      have c4b1 : (a0_1 != a1_1) = false := bne_eq_false_iff_eq.mpr c4
      clear c4
      obtain rfl := Option.some.inj H
      go_enter Tryz.func8, Tryz.ntmps8
      go_wp2_with (first | ((with_reducible refine gate_dst (N := 2) rfl ?_); refine box_event ?hg (N := 2) ?hd (cs := #[.int .i64 a0_0, .int .i64 a0_1, .string a0_2]) (t := 26) ?hr ?_; (case hd => rfl); (case hg => rfl); (case hr => first | (go_simp; done) | (go_simp; rfl)); intro gb396 hg w5 hbox hb; have n0_ := Aside0.mk (below_step (by repeat first | with_reducible exact HB.out | refine zS ?_ | exact HB.out) hb); have n1_ := Aside0.mk (hbox); have n2_ := Aside0.mk ((by rw [hg]; exact (below_size (by repeat first | with_reducible exact HB.out | refine zS ?_ | exact HB.out)) : w.heap.size ≤ gb396)); have n3_ := n2_; clear HB; have HB := n0_; have BK396 := n1_; have GW396 := n2_; have GE396 := n3_; clear n0_ n1_ n2_ n3_; clear hb hbox hg) | ((with_reducible refine gate_dst (N := 3) rfl ?_); refine box_event ?hg (N := 3) ?hd (cs := #[.int .i64 a1_0, .int .i64 a1_1, .string a1_2]) (t := 26) ?hr ?_; (case hd => rfl); (case hg => rfl); (case hr => first | (go_simp; done) | (go_simp; rfl)); intro gb397 hg w6 hbox hb; have n0_ := Aside0.mk (blk_below (g := gb396) (o := .cells #[.int .i64 a0_0, .int .i64 a0_1, .string a0_2] 26 (0, 0)) (zB BK396.out) hb); have n1_ := Aside0.mk (below_step (by repeat first | with_reducible exact HB.out | refine zS ?_ | refine below_set ?_ GE396.out | exact HB.out) hb); have n2_ := Aside0.mk (hbox); have n3_ := Aside0.mk ((by rw [hg]; exact (below_size (by repeat first | with_reducible exact HB.out | refine zS ?_ | refine below_set ?_ GE396.out | exact HB.out)) : w.heap.size ≤ gb397)); have n4_ := n3_; have n5_ := Aside0.mk ((by rw [hg]; exact Nat.ne_of_lt (blk_lt (g := gb396) (o := .cells #[.int .i64 a0_0, .int .i64 a0_1, .string a0_2] 26 (0, 0)) (zB BK396.out)) : gb396 ≠ gb397)); have n6_ := Aside0.mk ((by rw [hg]; exact Nat.ne_of_gt (blk_lt (g := gb396) (o := .cells #[.int .i64 a0_0, .int .i64 a0_1, .string a0_2] 26 (0, 0)) (zB BK396.out)) : gb397 ≠ gb396)); clear BK396; clear HB; have BK396 := n0_; have HB := n1_; have BK397 := n2_; have GW397 := n3_; have GE397 := n4_; have NB396_397 := n5_; have NB397_396 := n6_; clear n0_ n1_ n2_ n3_ n4_ n5_ n6_; clear hb hbox hg; have hnb7 := NB396_397.out; have hnc7 := NB397_396.out; obtain ⟨hcz8_0, hcz8_1, hcz8_2, hfz8_0, hfz8_1, hfz8_2⟩ := zC3 BK396.out; obtain ⟨hcz9_0, hcz9_1, hcz9_2, hfz9_0, hfz9_1, hfz9_2⟩ := zC3 BK397.out))
      go_ret
      exact ⟨by first | rfl | (simp [errW_none, errW_some] <;> rfl) | (simp [*, errW_none, errW_some] <;> rfl), by repeat first | with_reducible exact HB.out | refine zS ?_ | refine below_set ?_ GE396.out | refine below_set ?_ GE397.out | exact HB.out⟩
    · rw [if_neg c4] at H
      have c4b0 : (a0_1 == a1_1) = false := beq_eq_false_iff_ne.mpr c4
      have c4b1 : (a0_1 != a1_1) = true := bne_iff_ne.mpr c4
      obtain rfl := Option.some.inj H
      go_enter Tryz.func8, Tryz.ntmps8
      go_wp2_with (first | ((with_reducible refine gate_dst (N := 2) rfl ?_); refine box_event ?hg (N := 2) ?hd (cs := #[.int .i64 a0_0, .int .i64 a0_1, .string a0_2]) (t := 26) ?hr ?_; (case hd => rfl); (case hg => rfl); (case hr => first | (go_simp; done) | (go_simp; rfl)); intro gb396 hg w10 hbox hb; have n0_ := Aside0.mk (below_step (by repeat first | with_reducible exact HB.out | refine zS ?_ | exact HB.out) hb); have n1_ := Aside0.mk (hbox); have n2_ := Aside0.mk ((by rw [hg]; exact (below_size (by repeat first | with_reducible exact HB.out | refine zS ?_ | exact HB.out)) : w.heap.size ≤ gb396)); have n3_ := n2_; clear HB; have HB := n0_; have BK396 := n1_; have GW396 := n2_; have GE396 := n3_; clear n0_ n1_ n2_ n3_; clear hb hbox hg) | ((with_reducible refine gate_dst (N := 3) rfl ?_); refine box_event ?hg (N := 3) ?hd (cs := #[.int .i64 a1_0, .int .i64 a1_1, .string a1_2]) (t := 26) ?hr ?_; (case hd => rfl); (case hg => rfl); (case hr => first | (go_simp; done) | (go_simp; rfl)); intro gb397 hg w11 hbox hb; have n0_ := Aside0.mk (blk_below (g := gb396) (o := .cells #[.int .i64 a0_0, .int .i64 a0_1, .string a0_2] 26 (0, 0)) (zB BK396.out) hb); have n1_ := Aside0.mk (below_step (by repeat first | with_reducible exact HB.out | refine zS ?_ | refine below_set ?_ GE396.out | exact HB.out) hb); have n2_ := Aside0.mk (hbox); have n3_ := Aside0.mk ((by rw [hg]; exact (below_size (by repeat first | with_reducible exact HB.out | refine zS ?_ | refine below_set ?_ GE396.out | exact HB.out)) : w.heap.size ≤ gb397)); have n4_ := n3_; have n5_ := Aside0.mk ((by rw [hg]; exact Nat.ne_of_lt (blk_lt (g := gb396) (o := .cells #[.int .i64 a0_0, .int .i64 a0_1, .string a0_2] 26 (0, 0)) (zB BK396.out)) : gb396 ≠ gb397)); have n6_ := Aside0.mk ((by rw [hg]; exact Nat.ne_of_gt (blk_lt (g := gb396) (o := .cells #[.int .i64 a0_0, .int .i64 a0_1, .string a0_2] 26 (0, 0)) (zB BK396.out)) : gb397 ≠ gb396)); clear BK396; clear HB; have BK396 := n0_; have HB := n1_; have BK397 := n2_; have GW397 := n3_; have GE397 := n4_; have NB396_397 := n5_; have NB397_396 := n6_; clear n0_ n1_ n2_ n3_ n4_ n5_ n6_; clear hb hbox hg; have hnb12 := NB396_397.out; have hnc12 := NB397_396.out; obtain ⟨hcz13_0, hcz13_1, hcz13_2, hfz13_0, hfz13_1, hfz13_2⟩ := zC3 BK396.out; obtain ⟨hcz14_0, hcz14_1, hcz14_2, hfz14_0, hfz14_1, hfz14_2⟩ := zC3 BK397.out))
      go_ret
      exact ⟨by first | rfl | (simp [errW_none, errW_some] <;> rfl) | (simp [*, errW_none, errW_some] <;> rfl), by repeat first | with_reducible exact HB.out | refine zS ?_ | refine below_set ?_ GE396.out | refine below_set ?_ GE397.out | exact HB.out⟩
  · rw [if_neg c3] at H
    have c3b0 : (a0_0 == a1_0) = false := beq_eq_false_iff_ne.mpr c3
    have c3b1 : (a0_0 != a1_0) = true := bne_iff_ne.mpr c3
    obtain rfl := Option.some.inj H
    go_enter Tryz.func8, Tryz.ntmps8
    go_wp2_with (first | ((with_reducible refine gate_dst (N := 2) rfl ?_); refine box_event ?hg (N := 2) ?hd (cs := #[.int .i64 a0_0, .int .i64 a0_1, .string a0_2]) (t := 26) ?hr ?_; (case hd => rfl); (case hg => rfl); (case hr => first | (go_simp; done) | (go_simp; rfl)); intro gb396 hg w15 hbox hb; have n0_ := Aside0.mk (below_step (by repeat first | with_reducible exact HB.out | refine zS ?_ | exact HB.out) hb); have n1_ := Aside0.mk (hbox); have n2_ := Aside0.mk ((by rw [hg]; exact (below_size (by repeat first | with_reducible exact HB.out | refine zS ?_ | exact HB.out)) : w.heap.size ≤ gb396)); have n3_ := n2_; clear HB; have HB := n0_; have BK396 := n1_; have GW396 := n2_; have GE396 := n3_; clear n0_ n1_ n2_ n3_; clear hb hbox hg) | ((with_reducible refine gate_dst (N := 3) rfl ?_); refine box_event ?hg (N := 3) ?hd (cs := #[.int .i64 a1_0, .int .i64 a1_1, .string a1_2]) (t := 26) ?hr ?_; (case hd => rfl); (case hg => rfl); (case hr => first | (go_simp; done) | (go_simp; rfl)); intro gb397 hg w16 hbox hb; have n0_ := Aside0.mk (blk_below (g := gb396) (o := .cells #[.int .i64 a0_0, .int .i64 a0_1, .string a0_2] 26 (0, 0)) (zB BK396.out) hb); have n1_ := Aside0.mk (below_step (by repeat first | with_reducible exact HB.out | refine zS ?_ | refine below_set ?_ GE396.out | exact HB.out) hb); have n2_ := Aside0.mk (hbox); have n3_ := Aside0.mk ((by rw [hg]; exact (below_size (by repeat first | with_reducible exact HB.out | refine zS ?_ | refine below_set ?_ GE396.out | exact HB.out)) : w.heap.size ≤ gb397)); have n4_ := n3_; have n5_ := Aside0.mk ((by rw [hg]; exact Nat.ne_of_lt (blk_lt (g := gb396) (o := .cells #[.int .i64 a0_0, .int .i64 a0_1, .string a0_2] 26 (0, 0)) (zB BK396.out)) : gb396 ≠ gb397)); have n6_ := Aside0.mk ((by rw [hg]; exact Nat.ne_of_gt (blk_lt (g := gb396) (o := .cells #[.int .i64 a0_0, .int .i64 a0_1, .string a0_2] 26 (0, 0)) (zB BK396.out)) : gb397 ≠ gb396)); clear BK396; clear HB; have BK396 := n0_; have HB := n1_; have BK397 := n2_; have GW397 := n3_; have GE397 := n4_; have NB396_397 := n5_; have NB397_396 := n6_; clear n0_ n1_ n2_ n3_ n4_ n5_ n6_; clear hb hbox hg; have hnb17 := NB396_397.out; have hnc17 := NB397_396.out; obtain ⟨hcz18_0, hcz18_1, hcz18_2, hfz18_0, hfz18_1, hfz18_2⟩ := zC3 BK396.out; obtain ⟨hcz19_0, hcz19_1, hcz19_2, hfz19_0, hfz19_1, hfz19_2⟩ := zC3 BK397.out))
    go_ret
    exact ⟨by first | rfl | (simp [errW_none, errW_some] <;> rfl) | (simp [*, errW_none, errW_some] <;> rfl), by repeat first | with_reducible exact HB.out | refine zS ?_ | refine below_set ?_ GE396.out | refine below_set ?_ GE397.out | exact HB.out⟩
end Go.Proofs.YtmdmpafdpgdpoaaGreatDoor.P

namespace Go.Proofs.YtmdmpafdpgdpoaaGreatDoor.P
open Go.RowKit Go.Proofs.YtmdmpafdpgdpoaaGreatDoorW.PrintWords Go.Proofs.YtmdmpafdpgdpoaaGreatDoorW.PrintLast Go.Proofs.YtmdmpafdpgdpoaaGreatDoorW.PrintMore
attribute [local go_sem] max2_int min2_int max_two min_two max_three min_three max_four min_four   -- for this text's walks alone
set_option linter.unusedVariables false
set_option linter.unusedSimpArgs false
def pannierkeep_Values.l0 : Nat → List (S26) → List (S26) → Int → Option (Bool)
  | 0, _, _, _ => none
  | k + 1, x0, x1, x5 => if x5 < (x0.length : Int) then (if 0 ≤ x5 then (if x5 < (x1.length : Int) then ((pannierkeep_Value.f ((rd_T26 x0 x5).f0) ((rd_T26 x0 x5).f1) ((rd_T26 x0 x5).f2) ((rd_T26 x1 x5).f0) ((rd_T26 x1 x5).f1) ((rd_T26 x1 x5).f2)).bind fun t400 => (if t400 = true then (pannierkeep_Values.l0 k x0 x1 (wrap64 (x5 + 1))) else (some false))) else (none)) else (none)) else (some true)
def pannierkeep_Values.f (k : Nat) (l0 : List (S26)) (l1 : List (S26)) : Option (Bool) := if (l0.length : Int) = (l1.length : Int) then (pannierkeep_Values.l0 k l0 l1 0) else (some false)
def pannierkeep_Values.T6 : Bool × List (List Nat × List Nat) := (true, [([], []), ([], []), ([0, 1], [0, 1]), ([2], [2]), ([], []), ([], []), ([4, 5], [4, 5]), ([6], [6]), ([3, 7], [3, 7]), ([8], [8])])
def pannierkeep_Values.B6 : List Nat := [0, 0, 3, 7, 0, 0, 48, 112, 255, 511]
theorem pannierkeep_Values.tab6 : rtab .any (opsOf Tryz.f9 6) = pannierkeep_Values.T6 := by kernel_rfl
theorem pannierkeep_Values.bits6 : waitsOk pannierkeep_Values.T6.2 pannierkeep_Values.B6 = true := by kernel_rfl
set_option maxHeartbeats 8000000 in
set_option maxRecDepth 100000 in
theorem pannierkeep_Values.calls (k : Nat) (A0 : Option Addr) (c0 : Nat) (l0 : List (S26)) (A1 : Option Addr) (c1 : Nat) (l1 : List (S26)) (r : Bool) (w : World) (hr0 : Kd.C k26 w A0 l0.length l0) (hc0 : l0.length ≤ c0) (hr1 : Kd.C k26 w A1 l1.length l1) (hc1 : l1.length ≤ c1) (h : pannierkeep_Values.f k l0 l1 = some r) :
    Calls Tryz.prog 9 #[.slice A0 l0.length c0, .slice A1 l1.length c1] w fun e w' => e = .returned (.bool r) ∧ Below w.heap.size w w' := by
  have hu26 := Tryz.underlying26
  have HR0 := Aside0.mk hr0
  have HC0 := Aside0.mk hc0
  clear hr0 hc0
  have HR1 := Aside0.mk hr1
  have HC1 := Aside0.mk hc1
  clear hr1 hc1
  have HB := Aside0.mk (Below.refl w.heap.size w)
  have H : (if (l0.length : Int) = (l1.length : Int) then (pannierkeep_Values.l0 k l0 l1 0) else (some false)) = some r := h
  clear h
  by_cases c3 : (l0.length : Int) = (l1.length : Int)
  · rw [if_pos c3] at H
    have c3b0 : ((l0.length : Int) == (l1.length : Int)) = true := beq_iff_eq.mpr c3
    have c3b1 : ((l0.length : Int) != (l1.length : Int)) = false := bne_eq_false_iff_eq.mpr c3
    have c3b2 : (l0.length == l1.length) = true := by first | simpa using c3 | (simp at c3 ⊢; omega)
    clear c3
    have H' := Aside0.mk H
    clear H
    go_enter Tryz.func9, Tryz.ntmps9
    go_wp2
    go_loopg [5] k (fun kq v5 w' => ∃ (x5_1 : Int), v5 = .int .i64 x5_1 ∧ Aside0 (pannierkeep_Values.l0 kq l0 l1 x5_1 = some r) ∧ Aside0 (kq ≤ k) ∧ Aside0 (Below w.heap.size w w'))
    case atStart => exact ⟨(0), (by first | rfl | (simp; done) | (simp [*]; done)), H', ⟨Nat.le_refl _⟩, ⟨by repeat first | with_reducible exact HB.out | refine zS ?_ | exact HB.out⟩⟩
    case round =>
      clear H'
      try clear c1
      try clear p2
      try clear c3
      try clear c3b0
      try clear c3b1
      try clear c3b2
      obtain ⟨x5_1, rfl, HA, HK1, HB⟩ := hrel
      cases gk with
      | zero => exact absurd HA.out (by simp [pannierkeep_Values.l0])
      | succ k1 =>
        have H := HA.out
        clear HA
        simp only [pannierkeep_Values.l0] at H
        by_cases c4 : x5_1 < (l0.length : Int)
        · rw [if_pos c4] at H
          have c4b0 : decide (x5_1 < (l0.length : Int)) = true := decide_eq_true c4
          clear c4
          by_cases c5 : 0 ≤ x5_1
          · rw [if_pos c5] at H
            have c5b0 : decide (0 ≤ x5_1) = true := decide_eq_true c5
            clear c5
            by_cases c6 : x5_1 < (l1.length : Int)
            · rw [if_pos c6] at H
              have c6b0 : decide (x5_1 < (l1.length : Int)) = true := decide_eq_true c6
              clear c6
              replace H := Option.bind_eq_some_iff.mp H
              obtain ⟨t400, A70, H⟩ := H
              replace H : (if t400 = true then (pannierkeep_Values.l0 k1 l0 l1 (wrap64 (x5_1 + 1))) else (some false)) = some r := H
              have A7 := Aside0.mk A70
              clear A70
              by_cases c8 : t400 = true
              · subst c8
                have H1 : (pannierkeep_Values.l0 k1 l0 l1 (wrap64 (x5_1 + 1))) = some r := by rw [if_pos rfl] at H; exact H
                clear H
                have H := H1
                clear H1
                have H' := Aside0.mk H
                clear H
                try go_wp2
                have n0_ := Aside0.mk (below_drew1 HB.out)
                clear HB
                have HB := n0_
                clear n0_
                have p398 : 0 ≤ (x5_1 : Int) := of_decide_eq_true (by first | (with_reducible assumption) | assumption)
                have q398 : x5_1 < (l0.length : Int) := of_decide_eq_true (by first | (with_reducible assumption) | assumption)
                obtain ⟨ad398, e398, hx398_0, hx398_1, hx398_2⟩ := at_T26 HR0.out x5_1 p398 q398
                have hw398_2 := hx398_2
                have hw398_1 := hx398_1
                have hw398_0 := hx398_0
                cases e398
                replace hx398_0 := (HB.out.cell (World.block_lt_of_cell? w _ hx398_0)).trans hx398_0
                replace hx398_1 := (HB.out.cell (World.block_lt_of_cell? w _ hx398_1)).trans hx398_1
                replace hx398_2 := (HB.out.cell (World.block_lt_of_cell? w _ hx398_2)).trans hx398_2
                replace p398 := eq_true p398
                replace q398 := eq_true q398
                have p399 : 0 ≤ (x5_1 : Int) := of_decide_eq_true (by first | (with_reducible assumption) | assumption)
                have q399 : x5_1 < (l1.length : Int) := of_decide_eq_true (by first | (with_reducible assumption) | assumption)
                obtain ⟨ad399, e399, hx399_0, hx399_1, hx399_2⟩ := at_T26 HR1.out x5_1 p399 q399
                have hw399_2 := hx399_2
                have hw399_1 := hx399_1
                have hw399_0 := hx399_0
                cases e399
                replace hx399_0 := (HB.out.cell (World.block_lt_of_cell? w _ hx399_0)).trans hx399_0
                replace hx399_1 := (HB.out.cell (World.block_lt_of_cell? w _ hx399_1)).trans hx399_1
                replace hx399_2 := (HB.out.cell (World.block_lt_of_cell? w _ hx399_2)).trans hx399_2
                replace p399 := eq_true p399
                replace q399 := eq_true q399
                refine start_ (n := 10) (S := fun w' => w'.cell? (ad398.add ((x5_1).toNat * 3)) = some (.int .i64 ((rd_T26 l0 x5_1).f0)) ∧ w'.cell? ⟨(ad398.add ((x5_1).toNat * 3)).block, (ad398.add ((x5_1).toNat * 3)).off + 1, none⟩ = some (.int .i64 ((rd_T26 l0 x5_1).f1)) ∧ w'.cell? ⟨(ad398.add ((x5_1).toNat * 3)).block, (ad398.add ((x5_1).toNat * 3)).off + 2, none⟩ = some (.string ((rd_T26 l0 x5_1).f2)) ∧ w'.cell? (ad399.add ((x5_1).toNat * 3)) = some (.int .i64 ((rd_T26 l1 x5_1).f0)) ∧ w'.cell? ⟨(ad399.add ((x5_1).toNat * 3)).block, (ad399.add ((x5_1).toNat * 3)).off + 1, none⟩ = some (.int .i64 ((rd_T26 l1 x5_1).f1)) ∧ w'.cell? ⟨(ad399.add ((x5_1).toNat * 3)).block, (ad399.add ((x5_1).toNat * 3)).off + 2, none⟩ = some (.string ((rd_T26 l1 x5_1).f2))) (ds := []) #[false, false, false, false, false, false, false, false, false, false] (by kernel_rfl) rfl rfl ⟨((HB.out.cell (World.block_lt_of_cell? w _ hw398_0)).trans hw398_0), ((HB.out.cell (World.block_lt_of_cell? w _ hw398_1)).trans hw398_1), ((HB.out.cell (World.block_lt_of_cell? w _ hw398_2)).trans hw398_2), ((HB.out.cell (World.block_lt_of_cell? w _ hw399_0)).trans hw399_0), ((HB.out.cell (World.block_lt_of_cell? w _ hw399_1)).trans hw399_1), ((HB.out.cell (World.block_lt_of_cell? w _ hw399_2)).trans hw399_2)⟩ (fun hHeld => ?_); refine with_tabW pannierkeep_Values.tab6 pannierkeep_Values.bits6 (fun HT_ HW_ => ?_)
                generalize wr.drew = w9 at HB hx398_0 hx398_1 hx398_2 hx399_0 hx399_1 hx399_2 hHeld ⊢
                refine pure_ (i := 0) (N := some 17) (v := ?_) (a' := ?_) #[true, false, false, false, false, false, false, false, false, false] rfl rfl (any_of HT_.out (by kernel_rfl)) (fun _ _ _ h => h) (Or.inl ⟨by rfl, ?_⟩) ?_ ?_
                rotate_left
                · intro w'
                  go_simp
                  with_reducible rfl
                rotate_left
                · simp only [Act.put, List.setIfInBounds_toArray, List.set_cons_zero, List.set_cons_succ, i64_w, i32_w]
                  rfl
                refine pure_ (i := 1) (N := some 18) (v := ?_) (a' := ?_) #[true, true, false, false, false, false, false, false, false, false] rfl rfl (any_of HT_.out (by kernel_rfl)) (fun _ _ _ h => h) (Or.inl ⟨by rfl, ?_⟩) ?_ ?_
                rotate_left
                · intro w'
                  go_simp
                  with_reducible rfl
                rotate_left
                · simp only [Act.put, List.setIfInBounds_toArray, List.set_cons_zero, List.set_cons_succ, i64_w, i32_w]
                  rfl
                refine pure_ (i := 2) (N := some 19) (v := ?_) (a' := ?_) #[true, true, true, false, false, false, false, false, false, false] rfl rfl (any_of HT_.out (by kernel_rfl)) (fun _ _ _ h => h) (Or.inl ⟨by rfl, ?_⟩) ?_ ?_
                rotate_left
                · intro w'
                  go_simp
                  with_reducible rfl
                rotate_left
                · simp only [Act.put, List.setIfInBounds_toArray, List.set_cons_zero, List.set_cons_succ, i64_w, i32_w]
                  rfl
                refine pure_ (i := 4) (N := some 21) (v := ?_) (a' := ?_) #[true, true, true, false, true, false, false, false, false, false] rfl rfl (any_of HT_.out (by kernel_rfl)) (fun _ _ _ h => h) (Or.inl ⟨by rfl, ?_⟩) ?_ ?_
                rotate_left
                · intro w'
                  go_simp
                  with_reducible rfl
                rotate_left
                · simp only [Act.put, List.setIfInBounds_toArray, List.set_cons_zero, List.set_cons_succ, i64_w, i32_w]
                  rfl
                refine pure_ (i := 5) (N := some 22) (v := ?_) (a' := ?_) #[true, true, true, false, true, true, false, false, false, false] rfl rfl (any_of HT_.out (by kernel_rfl)) (fun _ _ _ h => h) (Or.inl ⟨by rfl, ?_⟩) ?_ ?_
                rotate_left
                · intro w'
                  go_simp
                  with_reducible rfl
                rotate_left
                · simp only [Act.put, List.setIfInBounds_toArray, List.set_cons_zero, List.set_cons_succ, i64_w, i32_w]
                  rfl
                refine pure_ (i := 6) (N := some 23) (v := ?_) (a' := ?_) #[true, true, true, false, true, true, true, false, false, false] rfl rfl (any_of HT_.out (by kernel_rfl)) (fun _ _ _ h => h) (Or.inl ⟨by rfl, ?_⟩) ?_ ?_
                rotate_left
                · intro w'
                  go_simp
                  with_reducible rfl
                rotate_left
                · simp only [Act.put, List.setIfInBounds_toArray, List.set_cons_zero, List.set_cons_succ, i64_w, i32_w]
                  rfl
                refine take_ (i := 3) (N := some 20) (v := ?_) (a' := ?_) #[true, true, true, true, true, true, true, false, false, false] rfl rfl (take_ofW HT_.out HW_.out (by kernel_rfl)) (fun _ _ _ h => h) (Or.inl ⟨by rfl, ?_⟩) hHeld ?_ ?_
                rotate_left
                · rintro w' ⟨s0, s1, s2, s3, s4, s5⟩
                  go_simp
                  with_reducible rfl
                rotate_left
                · simp only [Act.put, List.setIfInBounds_toArray, List.set_cons_zero, List.set_cons_succ, i64_w, i32_w]
                  rfl
                refine take_ (i := 7) (N := some 24) (v := ?_) (a' := ?_) #[true, true, true, true, true, true, true, true, false, false] rfl rfl (take_ofW HT_.out HW_.out (by kernel_rfl)) (fun _ _ _ h => h) (Or.inl ⟨by rfl, ?_⟩) hHeld ?_ ?_
                rotate_left
                · rintro w' ⟨s0, s1, s2, s3, s4, s5⟩
                  go_simp
                  with_reducible rfl
                rotate_left
                · simp only [Act.put, List.setIfInBounds_toArray, List.set_cons_zero, List.set_cons_succ, i64_w, i32_w]
                  rfl
                refine one_ (i := 8) (N := some 25) #[true, true, true, true, true, true, true, true, true, false] rfl rfl (one_of HT_.out (by kernel_rfl)) (by decide) (fun K hK => ?_)
                refine goes_ Tryz.func8 (by kernel_rfl) rfl #[.agg #[.int .i64 ((rd_T26 l0 x5_1).f0), .int .i64 ((rd_T26 l0 x5_1).f1), .string ((rd_T26 l0 x5_1).f2)], .agg #[.int .i64 ((rd_T26 l1 x5_1).f0), .int .i64 ((rd_T26 l1 x5_1).f1), .string ((rd_T26 l1 x5_1).f2)]] (by rfl) rfl rfl (by (try simp only [List.map_toArray, List.map_cons, List.map_nil]); first | done | rfl | (simp only [List.length_drop, List.length_take]; rfl)) ?_
                with_reducible refine (pannierkeep_Value.calls ((rd_T26 l0 x5_1).f0) ((rd_T26 l0 x5_1).f1) ((rd_T26 l0 x5_1).f2) ((rd_T26 l1 x5_1).f0) ((rd_T26 l1 x5_1).f1) ((rd_T26 l1 x5_1).f2) true _ A7.out).mono ?_
                rintro e w10 ⟨rfl, hb⟩
                refine ⟨_, rfl, ?_⟩
                have n0_ := Aside0.mk (below_step (by repeat first | with_reducible exact HB.out | refine zS ?_ | exact HB.out) hb)
                clear HB
                have HB := n0_
                clear n0_
                (try clear hb)
                (try clear hb2)
                (try clear hk)
                (try clear hi)
                refine hK.out _ _ ⟨((HB.out.cell (World.block_lt_of_cell? w _ hw398_0)).trans hw398_0), ((HB.out.cell (World.block_lt_of_cell? w _ hw398_1)).trans hw398_1), ((HB.out.cell (World.block_lt_of_cell? w _ hw398_2)).trans hw398_2), ((HB.out.cell (World.block_lt_of_cell? w _ hw399_0)).trans hw399_0), ((HB.out.cell (World.block_lt_of_cell? w _ hw399_1)).trans hw399_1), ((HB.out.cell (World.block_lt_of_cell? w _ hw399_2)).trans hw399_2)⟩ (fun hHeld => ?_)
                clear hK K
                refine norm_ (a' := ?_) ?_ ?_
                rotate_left
                · show Act.put _ (some 25) _ = _
                  simp only [Act.put, List.setIfInBounds_toArray, List.set_cons_zero, List.set_cons_succ, i64_w, i32_w]
                  rfl
                refine pure_ (i := 9) (N := some 26) (v := ?_) (a' := ?_) #[true, true, true, true, true, true, true, true, true, true] rfl rfl (any_of HT_.out (by kernel_rfl)) (fun _ _ _ h => h) (Or.inl ⟨by rfl, ?_⟩) ?_ ?_
                rotate_left
                · intro w'
                  go_simp
                  with_reducible rfl
                rotate_left
                · simp only [Act.put, List.setIfInBounds_toArray, List.set_cons_zero, List.set_cons_succ, i64_w, i32_w]
                  rfl
                refine done_ (done_of HT_.out (by kernel_rfl)) ?_
                try go_wp2
                go_roundg k1
                case measure => have := HK1.out; omega
                case rel => exact ⟨(wrap64 (x5_1 + 1)), (by first | rfl | (simp; done) | (simp [*]; done)), H', ⟨by have := HK1.out; omega⟩, ⟨by repeat first | with_reducible exact HB.out | refine zS ?_ | exact HB.out⟩⟩
              · replace c8 := Bool.eq_false_iff.mpr c8
                subst c8
                have H1 : (some false) = some r := by rw [if_neg (show ¬ (false = true) by decide)] at H; exact H
                clear H
                have H := H1
                clear H1
                obtain rfl := Option.some.inj H
                try go_wp2
                have n0_ := Aside0.mk (below_drew1 HB.out)
                clear HB
                have HB := n0_
                clear n0_
                have p398 : 0 ≤ (x5_1 : Int) := of_decide_eq_true (by first | (with_reducible assumption) | assumption)
                have q398 : x5_1 < (l0.length : Int) := of_decide_eq_true (by first | (with_reducible assumption) | assumption)
                obtain ⟨ad398, e398, hx398_0, hx398_1, hx398_2⟩ := at_T26 HR0.out x5_1 p398 q398
                have hw398_2 := hx398_2
                have hw398_1 := hx398_1
                have hw398_0 := hx398_0
                cases e398
                replace hx398_0 := (HB.out.cell (World.block_lt_of_cell? w _ hx398_0)).trans hx398_0
                replace hx398_1 := (HB.out.cell (World.block_lt_of_cell? w _ hx398_1)).trans hx398_1
                replace hx398_2 := (HB.out.cell (World.block_lt_of_cell? w _ hx398_2)).trans hx398_2
                replace p398 := eq_true p398
                replace q398 := eq_true q398
                have p399 : 0 ≤ (x5_1 : Int) := of_decide_eq_true (by first | (with_reducible assumption) | assumption)
                have q399 : x5_1 < (l1.length : Int) := of_decide_eq_true (by first | (with_reducible assumption) | assumption)
                obtain ⟨ad399, e399, hx399_0, hx399_1, hx399_2⟩ := at_T26 HR1.out x5_1 p399 q399
                have hw399_2 := hx399_2
                have hw399_1 := hx399_1
                have hw399_0 := hx399_0
                cases e399
                replace hx399_0 := (HB.out.cell (World.block_lt_of_cell? w _ hx399_0)).trans hx399_0
                replace hx399_1 := (HB.out.cell (World.block_lt_of_cell? w _ hx399_1)).trans hx399_1
                replace hx399_2 := (HB.out.cell (World.block_lt_of_cell? w _ hx399_2)).trans hx399_2
                replace p399 := eq_true p399
                replace q399 := eq_true q399
                refine start_ (n := 10) (S := fun w' => w'.cell? (ad398.add ((x5_1).toNat * 3)) = some (.int .i64 ((rd_T26 l0 x5_1).f0)) ∧ w'.cell? ⟨(ad398.add ((x5_1).toNat * 3)).block, (ad398.add ((x5_1).toNat * 3)).off + 1, none⟩ = some (.int .i64 ((rd_T26 l0 x5_1).f1)) ∧ w'.cell? ⟨(ad398.add ((x5_1).toNat * 3)).block, (ad398.add ((x5_1).toNat * 3)).off + 2, none⟩ = some (.string ((rd_T26 l0 x5_1).f2)) ∧ w'.cell? (ad399.add ((x5_1).toNat * 3)) = some (.int .i64 ((rd_T26 l1 x5_1).f0)) ∧ w'.cell? ⟨(ad399.add ((x5_1).toNat * 3)).block, (ad399.add ((x5_1).toNat * 3)).off + 1, none⟩ = some (.int .i64 ((rd_T26 l1 x5_1).f1)) ∧ w'.cell? ⟨(ad399.add ((x5_1).toNat * 3)).block, (ad399.add ((x5_1).toNat * 3)).off + 2, none⟩ = some (.string ((rd_T26 l1 x5_1).f2))) (ds := []) #[false, false, false, false, false, false, false, false, false, false] (by kernel_rfl) rfl rfl ⟨((HB.out.cell (World.block_lt_of_cell? w _ hw398_0)).trans hw398_0), ((HB.out.cell (World.block_lt_of_cell? w _ hw398_1)).trans hw398_1), ((HB.out.cell (World.block_lt_of_cell? w _ hw398_2)).trans hw398_2), ((HB.out.cell (World.block_lt_of_cell? w _ hw399_0)).trans hw399_0), ((HB.out.cell (World.block_lt_of_cell? w _ hw399_1)).trans hw399_1), ((HB.out.cell (World.block_lt_of_cell? w _ hw399_2)).trans hw399_2)⟩ (fun hHeld => ?_); refine with_tabW pannierkeep_Values.tab6 pannierkeep_Values.bits6 (fun HT_ HW_ => ?_)
                generalize wr.drew = w11 at HB hx398_0 hx398_1 hx398_2 hx399_0 hx399_1 hx399_2 hHeld ⊢
                refine pure_ (i := 0) (N := some 17) (v := ?_) (a' := ?_) #[true, false, false, false, false, false, false, false, false, false] rfl rfl (any_of HT_.out (by kernel_rfl)) (fun _ _ _ h => h) (Or.inl ⟨by rfl, ?_⟩) ?_ ?_
                rotate_left
                · intro w'
                  go_simp
                  with_reducible rfl
                rotate_left
                · simp only [Act.put, List.setIfInBounds_toArray, List.set_cons_zero, List.set_cons_succ, i64_w, i32_w]
                  rfl
                refine pure_ (i := 1) (N := some 18) (v := ?_) (a' := ?_) #[true, true, false, false, false, false, false, false, false, false] rfl rfl (any_of HT_.out (by kernel_rfl)) (fun _ _ _ h => h) (Or.inl ⟨by rfl, ?_⟩) ?_ ?_
                rotate_left
                · intro w'
                  go_simp
                  with_reducible rfl
                rotate_left
                · simp only [Act.put, List.setIfInBounds_toArray, List.set_cons_zero, List.set_cons_succ, i64_w, i32_w]
                  rfl
                refine pure_ (i := 2) (N := some 19) (v := ?_) (a' := ?_) #[true, true, true, false, false, false, false, false, false, false] rfl rfl (any_of HT_.out (by kernel_rfl)) (fun _ _ _ h => h) (Or.inl ⟨by rfl, ?_⟩) ?_ ?_
                rotate_left
                · intro w'
                  go_simp
                  with_reducible rfl
                rotate_left
                · simp only [Act.put, List.setIfInBounds_toArray, List.set_cons_zero, List.set_cons_succ, i64_w, i32_w]
                  rfl
                refine pure_ (i := 4) (N := some 21) (v := ?_) (a' := ?_) #[true, true, true, false, true, false, false, false, false, false] rfl rfl (any_of HT_.out (by kernel_rfl)) (fun _ _ _ h => h) (Or.inl ⟨by rfl, ?_⟩) ?_ ?_
                rotate_left
                · intro w'
                  go_simp
                  with_reducible rfl
                rotate_left
                · simp only [Act.put, List.setIfInBounds_toArray, List.set_cons_zero, List.set_cons_succ, i64_w, i32_w]
                  rfl
                refine pure_ (i := 5) (N := some 22) (v := ?_) (a' := ?_) #[true, true, true, false, true, true, false, false, false, false] rfl rfl (any_of HT_.out (by kernel_rfl)) (fun _ _ _ h => h) (Or.inl ⟨by rfl, ?_⟩) ?_ ?_
                rotate_left
                · intro w'
                  go_simp
                  with_reducible rfl
                rotate_left
                · simp only [Act.put, List.setIfInBounds_toArray, List.set_cons_zero, List.set_cons_succ, i64_w, i32_w]
                  rfl
                refine pure_ (i := 6) (N := some 23) (v := ?_) (a' := ?_) #[true, true, true, false, true, true, true, false, false, false] rfl rfl (any_of HT_.out (by kernel_rfl)) (fun _ _ _ h => h) (Or.inl ⟨by rfl, ?_⟩) ?_ ?_
                rotate_left
                · intro w'
                  go_simp
                  with_reducible rfl
                rotate_left
                · simp only [Act.put, List.setIfInBounds_toArray, List.set_cons_zero, List.set_cons_succ, i64_w, i32_w]
                  rfl
                refine take_ (i := 3) (N := some 20) (v := ?_) (a' := ?_) #[true, true, true, true, true, true, true, false, false, false] rfl rfl (take_ofW HT_.out HW_.out (by kernel_rfl)) (fun _ _ _ h => h) (Or.inl ⟨by rfl, ?_⟩) hHeld ?_ ?_
                rotate_left
                · rintro w' ⟨s0, s1, s2, s3, s4, s5⟩
                  go_simp
                  with_reducible rfl
                rotate_left
                · simp only [Act.put, List.setIfInBounds_toArray, List.set_cons_zero, List.set_cons_succ, i64_w, i32_w]
                  rfl
                refine take_ (i := 7) (N := some 24) (v := ?_) (a' := ?_) #[true, true, true, true, true, true, true, true, false, false] rfl rfl (take_ofW HT_.out HW_.out (by kernel_rfl)) (fun _ _ _ h => h) (Or.inl ⟨by rfl, ?_⟩) hHeld ?_ ?_
                rotate_left
                · rintro w' ⟨s0, s1, s2, s3, s4, s5⟩
                  go_simp
                  with_reducible rfl
                rotate_left
                · simp only [Act.put, List.setIfInBounds_toArray, List.set_cons_zero, List.set_cons_succ, i64_w, i32_w]
                  rfl
                refine one_ (i := 8) (N := some 25) #[true, true, true, true, true, true, true, true, true, false] rfl rfl (one_of HT_.out (by kernel_rfl)) (by decide) (fun K hK => ?_)
                refine goes_ Tryz.func8 (by kernel_rfl) rfl #[.agg #[.int .i64 ((rd_T26 l0 x5_1).f0), .int .i64 ((rd_T26 l0 x5_1).f1), .string ((rd_T26 l0 x5_1).f2)], .agg #[.int .i64 ((rd_T26 l1 x5_1).f0), .int .i64 ((rd_T26 l1 x5_1).f1), .string ((rd_T26 l1 x5_1).f2)]] (by rfl) rfl rfl (by (try simp only [List.map_toArray, List.map_cons, List.map_nil]); first | done | rfl | (simp only [List.length_drop, List.length_take]; rfl)) ?_
                with_reducible refine (pannierkeep_Value.calls ((rd_T26 l0 x5_1).f0) ((rd_T26 l0 x5_1).f1) ((rd_T26 l0 x5_1).f2) ((rd_T26 l1 x5_1).f0) ((rd_T26 l1 x5_1).f1) ((rd_T26 l1 x5_1).f2) false _ A7.out).mono ?_
                rintro e w12 ⟨rfl, hb⟩
                refine ⟨_, rfl, ?_⟩
                have n0_ := Aside0.mk (below_step (by repeat first | with_reducible exact HB.out | refine zS ?_ | exact HB.out) hb)
                clear HB
                have HB := n0_
                clear n0_
                (try clear hb)
                (try clear hb2)
                (try clear hk)
                (try clear hi)
                refine hK.out _ _ ⟨((HB.out.cell (World.block_lt_of_cell? w _ hw398_0)).trans hw398_0), ((HB.out.cell (World.block_lt_of_cell? w _ hw398_1)).trans hw398_1), ((HB.out.cell (World.block_lt_of_cell? w _ hw398_2)).trans hw398_2), ((HB.out.cell (World.block_lt_of_cell? w _ hw399_0)).trans hw399_0), ((HB.out.cell (World.block_lt_of_cell? w _ hw399_1)).trans hw399_1), ((HB.out.cell (World.block_lt_of_cell? w _ hw399_2)).trans hw399_2)⟩ (fun hHeld => ?_)
                clear hK K
                refine norm_ (a' := ?_) ?_ ?_
                rotate_left
                · show Act.put _ (some 25) _ = _
                  simp only [Act.put, List.setIfInBounds_toArray, List.set_cons_zero, List.set_cons_succ, i64_w, i32_w]
                  rfl
                refine pure_ (i := 9) (N := some 26) (v := ?_) (a' := ?_) #[true, true, true, true, true, true, true, true, true, true] rfl rfl (any_of HT_.out (by kernel_rfl)) (fun _ _ _ h => h) (Or.inl ⟨by rfl, ?_⟩) ?_ ?_
                rotate_left
                · intro w'
                  go_simp
                  with_reducible rfl
                rotate_left
                · simp only [Act.put, List.setIfInBounds_toArray, List.set_cons_zero, List.set_cons_succ, i64_w, i32_w]
                  rfl
                refine done_ (done_of HT_.out (by kernel_rfl)) ?_
                try go_wp2
                go_ret
                exact ⟨by first | rfl | (simp [errW_none, errW_some] <;> rfl) | (simp [*, errW_none, errW_some] <;> rfl), by repeat first | with_reducible exact HB.out | refine zS ?_ | exact HB.out⟩
            · rw [if_neg c6] at H
              exact absurd H (by simp)
          · rw [if_neg c5] at H
            exact absurd H (by simp)
        · rw [if_neg c4] at H
          have c4b0 : decide (x5_1 < (l0.length : Int)) = false := decide_eq_false c4
          clear c4
          obtain rfl := Option.some.inj H
          go_wp2
          go_ret
          exact ⟨by first | rfl | (simp [errW_none, errW_some] <;> rfl) | (simp [*, errW_none, errW_some] <;> rfl), by repeat first | with_reducible exact HB.out | refine zS ?_ | exact HB.out⟩
  · rw [if_neg c3] at H
    have c3b0 : ((l0.length : Int) == (l1.length : Int)) = false := beq_eq_false_iff_ne.mpr c3
    have c3b1 : ((l0.length : Int) != (l1.length : Int)) = true := bne_iff_ne.mpr c3
    have c3b2 : (l0.length == l1.length) = false := by first | simpa using c3 | (simp at c3 ⊢; omega)
    obtain rfl := Option.some.inj H
    go_enter Tryz.func9, Tryz.ntmps9
    go_wp2
    go_ret
    exact ⟨by first | rfl | (simp [errW_none, errW_some] <;> rfl) | (simp [*, errW_none, errW_some] <;> rfl), by repeat first | with_reducible exact HB.out | refine zS ?_ | exact HB.out⟩
end Go.Proofs.YtmdmpafdpgdpoaaGreatDoor.P

namespace Go.Proofs.YtmdmpafdpgdpoaaGreatDoor.P
open Go.RowKit Go.Proofs.YtmdmpafdpgdpoaaGreatDoorW.PrintWords Go.Proofs.YtmdmpafdpgdpoaaGreatDoorW.PrintLast Go.Proofs.YtmdmpafdpgdpoaaGreatDoorW.PrintMore
attribute [local go_sem] max2_int min2_int max_two min_two max_three min_three max_four min_four   -- for this text's walks alone
set_option linter.unusedVariables false
set_option linter.unusedSimpArgs false
def pannierlaw10_FoldOf.j0 : Nat → ByteArray → List (S26) → Bool → Option (Bool)
  | 0, _, _, _ => none
  | k + 1, x0, x1, x16 => if x16 = true then ((pannierlaw10_wakes.f).bind fun t470 => (some t470)) else ((some (([] : List (S26)) : List (S26))).bind fun y471 => (if y471.length + x1.length < 4398046511104 then ((some (y471 ++ x1 : List (S26))).bind fun y474 => ((fold_Of.f x0 y474).bind fun bt477 => ((pannierref10_Of.f k x0 x1).bind fun bt482 => ((pannierkeep_Value.f bt477.1 bt477.2.1 bt477.2.2.1 bt482.1 bt482.2.1 bt482.2.2.1).bind fun t487 => (if t487 = true then (if (bt477.2.2.2 == bt482.2.2.2) = true then ((pannierkeep_Values.f k y474 x1).bind fun t488 => (if t488 = true then ((pannierlaw10_wakes.f).bind fun t489 => (some t489)) else (none))) else (none)) else (none)))))) else (none)))
def pannierlaw10_FoldOf.f (k : Nat) (a0 : ByteArray) (l1 : List (S26)) : Option (Bool) := (pannierlaw10_Fair.f k l1).bind fun t469 => (if t469 = true then (pannierlaw10_FoldOf.j0 k a0 l1 (decide ((a0.size : Int) > 100))) else (pannierlaw10_FoldOf.j0 k a0 l1 true))
set_option maxHeartbeats 8000000 in
set_option maxRecDepth 100000 in
theorem pannierlaw10_FoldOf.calls (k : Nat) (a0 : ByteArray) (A1 : Option Addr) (c1 : Nat) (l1 : List (S26)) (r : Bool) (w : World) (hr1 : Kd.C k26 w A1 l1.length l1) (hc1 : l1.length ≤ c1) (hG : G2 w) (h : pannierlaw10_FoldOf.f k a0 l1 = some r) :
    Calls Tryz.prog 3 #[.string a0, .slice A1 l1.length c1] w fun e w' => e = .returned (.bool r) ∧ Below w.heap.size w w' := by
  have hu26 := Tryz.underlying26
  have hu30 := Tryz.underlying30
  have HR1 := Aside0.mk hr1
  have HC1 := Aside0.mk hc1
  clear hr1 hc1
  have HB := Aside0.mk (Below.refl w.heap.size w)
  have H : ((pannierlaw10_Fair.f k l1).bind fun t469 => (if t469 = true then (pannierlaw10_FoldOf.j0 k a0 l1 (decide ((a0.size : Int) > 100))) else (pannierlaw10_FoldOf.j0 k a0 l1 true))) = some r := h
  clear h
  have HC3 := Aside0.mk H
  clear H
  go_enter Tryz.func3, Tryz.ntmps3
  go_upto_region 1 with (fail)
  go_cut [16] (fun v16 wc => ∃ (kq : Nat) (x16_2 : Bool), v16 = .bool x16_2 ∧ Aside0 (pannierlaw10_FoldOf.j0 kq a0 l1 x16_2 = some r) ∧ Aside0 (kq ≤ k) ∧ Aside0 (Below w.heap.size w wc))
  case first =>
    have H := HC3.out
    clear HC3
    replace H := Option.bind_eq_some_iff.mp H
    obtain ⟨t469, A40, H⟩ := H
    replace H : (if t469 = true then (pannierlaw10_FoldOf.j0 k a0 l1 (decide ((a0.size : Int) > 100))) else (pannierlaw10_FoldOf.j0 k a0 l1 true)) = some r := H
    have A4 := Aside0.mk A40
    clear A40
    by_cases c5 : t469 = true
    · subst c5
      have H1 : (pannierlaw10_FoldOf.j0 k a0 l1 (decide ((a0.size : Int) > 100))) = some r := by rw [if_pos rfl] at H; exact H
      clear H
      have H := H1
      clear H1
      have H' := Aside0.mk H
      clear H
      go_wp2_with (first | ((with_reducible refine gate_callee (f := 4) rfl ?_); refine goesL_ (some 10) rfl rfl Tryz.func4 (by kernel_rfl) rfl #[.slice A1 l1.length c1] rfl (by (try simp only [List.map_toArray, List.map_cons, List.map_nil]); first | done | rfl | (simp only [List.length_drop, List.length_take]; rfl)) ?_; (with_reducible refine (pannierlaw10_Fair.calls k _ _ l1 true _ ?side1 ?side2 A4.out).mono ?_); (case side1 => repeat (first | exact (Kd.C_below HR1.out HB.out) | (with_reducible refine Kd.C_alloc ?_ _) | (with_reducible refine Kd.C_drewN ?_ _) | (with_reducible refine Kd.C_drew ?_))); (case side2 => exact HC1.out); rintro e w' ⟨rfl, ⟨nd, rfl⟩⟩; refine ⟨_, rfl, ?_⟩))
      go_meet
      case rel => exact ⟨_, (decide ((a0.size : Int) > 100)), (by first | rfl | (simp; done) | (simp [*]; done)), H', ⟨by first | omega | exact Nat.le_refl _⟩, ⟨by repeat first | with_reducible exact HB.out | refine zS ?_ | exact HB.out⟩⟩
    · replace c5 := Bool.eq_false_iff.mpr c5
      subst c5
      have H1 : (pannierlaw10_FoldOf.j0 k a0 l1 true) = some r := by rw [if_neg (show ¬ (false = true) by decide)] at H; exact H
      clear H
      have H := H1
      clear H1
      have H' := Aside0.mk H
      clear H
      go_wp2_with (first | ((with_reducible refine gate_callee (f := 4) rfl ?_); refine goesL_ (some 10) rfl rfl Tryz.func4 (by kernel_rfl) rfl #[.slice A1 l1.length c1] rfl (by (try simp only [List.map_toArray, List.map_cons, List.map_nil]); first | done | rfl | (simp only [List.length_drop, List.length_take]; rfl)) ?_; (with_reducible refine (pannierlaw10_Fair.calls k _ _ l1 false _ ?side1 ?side2 A4.out).mono ?_); (case side1 => repeat (first | exact (Kd.C_below HR1.out HB.out) | (with_reducible refine Kd.C_alloc ?_ _) | (with_reducible refine Kd.C_drewN ?_ _) | (with_reducible refine Kd.C_drew ?_))); (case side2 => exact HC1.out); rintro e w' ⟨rfl, ⟨nd, rfl⟩⟩; refine ⟨_, rfl, ?_⟩))
      go_meet
      case rel => exact ⟨_, (true), (by first | rfl | (simp; done) | (simp [*]; done)), H', ⟨by first | omega | exact Nat.le_refl _⟩, ⟨by repeat first | with_reducible exact HB.out | refine zS ?_ | exact HB.out⟩⟩
  case rest =>
    clear HC3
    try clear c1
    try clear p2
    try clear c3
    try clear c4
    try clear c5
    obtain ⟨kq, x16_2, rfl, HA, HJ2, HB⟩ := hcut
    cases kq with
    | zero => exact absurd HA.out (by simp [pannierlaw10_FoldOf.j0])
    | succ kj2 =>
      have H := HA.out
      clear HA
      simp only [pannierlaw10_FoldOf.j0] at H
      by_cases c6 : x16_2 = true
      · subst c6
        have H1 : ((pannierlaw10_wakes.f).bind fun t470 => (some t470)) = some r := by rw [if_pos rfl] at H; exact H
        clear H
        have H := H1
        clear H1
        replace H := Option.bind_eq_some_iff.mp H
        obtain ⟨t470, A70, H⟩ := H
        replace H : (some t470) = some r := H
        have A7 := Aside0.mk A70
        clear A70
        obtain rfl := Option.some.inj H
        go_wp2_with (first | ((with_reducible refine gate_callee (f := 5) rfl ?_); refine goesL_ (some 17) rfl rfl Tryz.func5 (by kernel_rfl) rfl #[] rfl (by (try simp only [List.map_toArray, List.map_cons, List.map_nil]); first | done | rfl | (simp only [List.length_drop, List.length_take]; rfl)) ?_; (with_reducible refine (pannierlaw10_wakes.calls  t470 _ ?side1 A7.out).mono ?_); (case side1 => exact gl_2_2 (by repeat first | with_reducible exact HB.out | refine zS ?_ | exact HB.out) hG); rintro e w8 ⟨rfl, hb⟩; refine ⟨_, rfl, ?_⟩; have n0_ := Aside0.mk (below_step (by repeat first | with_reducible exact HB.out | refine zS ?_ | exact HB.out) hb); clear HB; have HB := n0_; clear n0_; (try clear hb); (try clear hb2); (try clear hk); (try clear hi)))
        go_ret
        exact ⟨by first | rfl | (simp [errW_none, errW_some] <;> rfl) | (simp [*, errW_none, errW_some] <;> rfl), by repeat first | with_reducible exact HB.out | refine zS ?_ | exact HB.out⟩
      · replace c6 := Bool.eq_false_iff.mpr c6
        subst c6
        have H1 : ((some (([] : List (S26)) : List (S26))).bind fun y471 => (if y471.length + l1.length < 4398046511104 then ((some (y471 ++ l1 : List (S26))).bind fun y474 => ((fold_Of.f a0 y474).bind fun bt477 => ((pannierref10_Of.f kj2 a0 l1).bind fun bt482 => ((pannierkeep_Value.f bt477.1 bt477.2.1 bt477.2.2.1 bt482.1 bt482.2.1 bt482.2.2.1).bind fun t487 => (if t487 = true then (if (bt477.2.2.2 == bt482.2.2.2) = true then ((pannierkeep_Values.f kj2 y474 l1).bind fun t488 => (if t488 = true then ((pannierlaw10_wakes.f).bind fun t489 => (some t489)) else (none))) else (none)) else (none)))))) else (none))) = some r := by rw [if_neg (show ¬ (false = true) by decide)] at H; exact H
        clear H
        have H := H1
        clear H1
        obtain ⟨y471, hy471⟩ : ∃ y_ : List (S26), y_ = (([] : List (S26))) := ⟨_, rfl⟩
        replace H : (if y471.length + l1.length < 4398046511104 then ((some (y471 ++ l1 : List (S26))).bind fun y474 => ((fold_Of.f a0 y474).bind fun bt477 => ((pannierref10_Of.f kj2 a0 l1).bind fun bt482 => ((pannierkeep_Value.f bt477.1 bt477.2.1 bt477.2.2.1 bt482.1 bt482.2.1 bt482.2.2.1).bind fun t487 => (if t487 = true then (if (bt477.2.2.2 == bt482.2.2.2) = true then ((pannierkeep_Values.f kj2 y474 l1).bind fun t488 => (if t488 = true then ((pannierlaw10_wakes.f).bind fun t489 => (some t489)) else (none))) else (none)) else (none)))))) else (none)) = some r := by first | (rw [hy471]; with_reducible exact H) | (have H2_ := (Option.bind_some _ _).symm.trans H; rw [hy471]; with_reducible exact H2_) | (have H2_ := (Option.bind_some _ _).symm.trans H; with_reducible exact H2_) | with_reducible exact H | (rw [hy471]; exact H) | exact H
        have Ny471 := Aside0.mk hy471
        clear hy471
        by_cases c9 : y471.length + l1.length < 4398046511104
        · rw [if_pos c9] at H
          have LMc9 := Aside0.mk c9
          clear c9
          obtain ⟨y474, hy474⟩ : ∃ y_ : List (S26), y_ = (y471 ++ l1) := ⟨_, rfl⟩
          replace H : ((fold_Of.f a0 y474).bind fun bt477 => ((pannierref10_Of.f kj2 a0 l1).bind fun bt482 => ((pannierkeep_Value.f bt477.1 bt477.2.1 bt477.2.2.1 bt482.1 bt482.2.1 bt482.2.2.1).bind fun t487 => (if t487 = true then (if (bt477.2.2.2 == bt482.2.2.2) = true then ((pannierkeep_Values.f kj2 y474 l1).bind fun t488 => (if t488 = true then ((pannierlaw10_wakes.f).bind fun t489 => (some t489)) else (none))) else (none)) else (none))))) = some r := by first | (rw [hy474]; with_reducible exact H) | (have H2_ := (Option.bind_some _ _).symm.trans H; rw [hy474]; with_reducible exact H2_) | (have H2_ := (Option.bind_some _ _).symm.trans H; with_reducible exact H2_) | with_reducible exact H | (rw [hy474]; exact H) | exact H
          have Ny474 := Aside0.mk hy474
          clear hy474
          replace H := Option.bind_eq_some_iff.mp H
          obtain ⟨⟨t477, t478, t479, t480⟩, A100, H⟩ := H
          replace H : ((pannierref10_Of.f kj2 a0 l1).bind fun bt482 => ((pannierkeep_Value.f t477 t478 t479 bt482.1 bt482.2.1 bt482.2.2.1).bind fun t487 => (if t487 = true then (if (t480 == bt482.2.2.2) = true then ((pannierkeep_Values.f kj2 y474 l1).bind fun t488 => (if t488 = true then ((pannierlaw10_wakes.f).bind fun t489 => (some t489)) else (none))) else (none)) else (none)))) = some r := H
          have A10 := Aside0.mk A100
          clear A100
          replace H := Option.bind_eq_some_iff.mp H
          obtain ⟨⟨t482, t483, t484, t485⟩, A110, H⟩ := H
          replace H : ((pannierkeep_Value.f t477 t478 t479 t482 t483 t484).bind fun t487 => (if t487 = true then (if (t480 == t485) = true then ((pannierkeep_Values.f kj2 y474 l1).bind fun t488 => (if t488 = true then ((pannierlaw10_wakes.f).bind fun t489 => (some t489)) else (none))) else (none)) else (none))) = some r := H
          have A11 := Aside0.mk A110
          clear A110
          replace H := Option.bind_eq_some_iff.mp H
          obtain ⟨t487, A120, H⟩ := H
          replace H : (if t487 = true then (if (t480 == t485) = true then ((pannierkeep_Values.f kj2 y474 l1).bind fun t488 => (if t488 = true then ((pannierlaw10_wakes.f).bind fun t489 => (some t489)) else (none))) else (none)) else (none)) = some r := H
          have A12 := Aside0.mk A120
          clear A120
          by_cases c13 : t487 = true
          · subst c13
            have H1 : (if (t480 == t485) = true then ((pannierkeep_Values.f kj2 y474 l1).bind fun t488 => (if t488 = true then ((pannierlaw10_wakes.f).bind fun t489 => (some t489)) else (none))) else (none)) = some r := by rw [if_pos rfl] at H; exact H
            clear H
            have H := H1
            clear H1
            by_cases c14 : (t480 == t485) = true
            · rw [if_pos c14] at H
              have c14b0 : (t480 == t485) = true := c14
              (try (have c14b1 : decide (t480 = t485) = true := by simpa using c14))
              (try (have c14b2 : (t480 == t485) = true := by simpa using c14))
              clear c14
              replace H := Option.bind_eq_some_iff.mp H
              obtain ⟨t488, A150, H⟩ := H
              replace H : (if t488 = true then ((pannierlaw10_wakes.f).bind fun t489 => (some t489)) else (none)) = some r := H
              have A15 := Aside0.mk A150
              clear A150
              by_cases c16 : t488 = true
              · subst c16
                have H1 : ((pannierlaw10_wakes.f).bind fun t489 => (some t489)) = some r := by rw [if_pos rfl] at H; exact H
                clear H
                have H := H1
                clear H1
                replace H := Option.bind_eq_some_iff.mp H
                obtain ⟨t489, A170, H⟩ := H
                replace H : (some t489) = some r := H
                have A17 := Aside0.mk A170
                clear A170
                obtain rfl := Option.some.inj H
                go_wp2_with (first | ((with_reducible refine gate_dst (N := 18) rfl ?_); (try (refine gate_guard (by rfl) ?_; dsimp only)); refine Kd.R_lit k26 _ 26 ?hg (N := 18) ?hd (xs := ([] : List (S26))) (inner := []) (ok := fun _ => True) (okp := fun _ => True) ?hr ?hp (fun _ hk => hk) trivial (Below.refl _ _) (Nat.le_refl _) (by simp) ?_; (case hd => rfl); (case hg => rfl); (case hr => first | (go_simp; done) | (go_simp; rfl)); (case hp => exact (Reps.none _ _)); intro v472 w18 ho19 hb hg_ hnew_; clear hg_ hnew_; (first | rw [← Ny471.out] at ho19 | (simp only [Int.reduceToNat] at ho19; rw [← Ny471.out] at ho19)); have n0_ := Aside0.mk (Kd.R_lower ho19 (below_size (by repeat first | with_reducible exact HB.out | refine zS ?_ | exact HB.out))); have n1_ := Aside0.mk (below_step (by repeat first | with_reducible exact HB.out | refine zS ?_ | exact HB.out) hb); clear HB; have HO473 := n0_; have HB := n1_; clear n0_ n1_; clear hb ho19) | ((with_reducible refine gate_builtin (b := .append) (xs := #[.tmp 18, .tmp 19]) rfl ?_); (try (refine gate_guard (by rfl) ?_; dsimp only)); at_builtin; refine Kd.R_append_rows k26 (w0 := w) w.heap.size rfl (.tmp 18) (.tmp 19) 22 26 (.agg #[(.int .i64 0), (.int .i64 0), (.string ⟨#[]⟩)]) 32 rfl Tryz.underlying22 info26 rfl (by decide) (by omega) v472 y471 l1 _ _ _ (fun _ => True) (fun _ => False) rfl rfl ?aO ?aR (fun _ _ h => h) (fun _ h => h.elim) ?aF ?aB ?aS ?aL ?_; (case aR => repeat (first | exact (Kd.C_below HR1.out HB.out) | (with_reducible refine Kd.C_alloc ?_ _) | (with_reducible refine Kd.C_drewN ?_ _) | (with_reducible refine Kd.C_drew ?_))); (case aB => exact (by repeat first | with_reducible exact HB.out | refine zS ?_ | exact HB.out)); (case aF => exact (fun _ _ => trivial)); (case aO => exact (by (with_reducible repeat (first | apply Kd.R_alloc | apply Kd.R_drewN | apply Kd.R_drew)); exact HO473.out)); (case aS => exact (below_size (by repeat first | with_reducible exact HB.out | refine zS ?_ | exact HB.out))); (case aL => have := LMc9.out; omega); intro v475 w20 ho hb hg hat; rw [← Ny474.out] at ho; have n0_ := Aside0.mk (hb); have n1_ := Aside0.mk (ho); clear HB; clear HO473; have HB := n0_; have HO476 := n1_; clear n0_ n1_; clear ho hb hg hat; obtain ⟨Ao21, co21, eo21⟩ := Kd.R_slice HO476.out; subst eo21) | ((with_reducible refine gate_callee (f := 6) rfl ?_); refine goesL_ (some 24) rfl rfl Tryz.func6 (by kernel_rfl) rfl #[.string a0, .slice Ao21 y474.length co21] rfl (by (try simp only [List.map_toArray, List.map_cons, List.map_nil]); first | done | rfl | (simp only [List.length_drop, List.length_take]; rfl)) ?_; (with_reducible refine (fold_Of.calls a0 _ _ y474 t477 t478 t479 t480 _ ?side1 ?side2 ?side3 A10.out).mono ?_); (case side1 => repeat (first | exact (Kd.R_reads' HO476.out).2.2 | (with_reducible refine Kd.C_alloc ?_ _) | (with_reducible refine Kd.C_drewN ?_ _) | (with_reducible refine Kd.C_drew ?_))); (case side2 => exact (Kd.R_reads' HO476.out).2.1); (case side3 => exact gl_2_2 (by repeat first | with_reducible exact HB.out | refine zS ?_ | exact HB.out) hG); rintro e w22 ⟨rfl, hb⟩; refine ⟨_, rfl, ?_⟩; have n0_ := Aside0.mk (Kd.R_below (by (with_reducible repeat (first | apply Kd.R_alloc | apply Kd.R_drewN | apply Kd.R_drew)); exact HO476.out) hb); have n1_ := Aside0.mk (below_step (by repeat first | with_reducible exact HB.out | refine zS ?_ | exact HB.out) hb); clear HO476; clear HB; have HO476 := n0_; have HB := n1_; clear n0_ n1_; (try clear hb); (try clear hb2); (try clear hk); (try clear hi)) | ((with_reducible refine gate_dst (N := 6) rfl ?_); (try (refine gate_guard (by rfl) ?_; dsimp only)); refine box_event ?hg (N := 6) ?hd (cs := #[.int .i64 0, .int .i64 0, .string (⟨#[]⟩ : ByteArray)]) (t := 26) ?hr ?_; (case hd => rfl); (case hg => rfl); (case hr => first | (go_simp; done) | (go_simp; rfl)); intro gb481 hg w23 hbox hb; have n0_ := Aside0.mk (Kd.R_below (Kd.R_elderB (by (with_reducible repeat (first | apply Kd.R_alloc | apply Kd.R_drewN | apply Kd.R_drew)); exact HO476.out) gb481 (Nat.le_of_eq hg.symm)) hb); have n1_ := Aside0.mk (below_step (by repeat first | with_reducible exact HB.out | refine zS ?_ | exact HB.out) hb); have n2_ := Aside0.mk (hbox); have n3_ := Aside0.mk ((by rw [hg]; exact (below_size (by repeat first | with_reducible exact HB.out | refine zS ?_ | exact HB.out)) : w.heap.size ≤ gb481)); have n4_ := n3_; clear HO476; clear HB; have HO476 := n0_; have HB := n1_; have BK481 := n2_; have GW481 := n3_; have GE481 := n4_; clear n0_ n1_ n2_ n3_ n4_; clear hb hbox hg; obtain ⟨hcz24_0, hcz24_1, hcz24_2, hfz24_0, hfz24_1, hfz24_2⟩ := zC3 BK481.out) | ((with_reducible refine gate_callee (f := 7) rfl ?_); refine goesL_ (some 29) rfl rfl Tryz.func7 (by kernel_rfl) rfl #[.string a0, .slice A1 l1.length c1] rfl (by (try simp only [List.map_toArray, List.map_cons, List.map_nil]); first | done | rfl | (simp only [List.length_drop, List.length_take]; rfl)) ?_; (with_reducible refine (pannierref10_Of.calls kj2 a0 _ _ l1 t482 t483 t484 t485 _ ?side1 ?side2 A11.out).mono ?_); (case side1 => exact Kd.C_below HR1.out (by repeat first | with_reducible exact HB.out | refine zS ?_ | refine below_set ?_ GE481.out | exact HB.out)); (case side2 => exact HC1.out); rintro e w25 ⟨rfl, hb⟩; refine ⟨_, rfl, ?_⟩; have n0_ := Aside0.mk (Kd.R_below (by (with_reducible repeat (first | apply Kd.R_alloc | apply Kd.R_drewN | apply Kd.R_drew)); exact (Kd.R_mono (Kd.R_far (p := ⟨gb481, 2, none⟩) (Kd.R_far (p := ⟨gb481, 1, none⟩) (Kd.R_far (p := ⟨gb481, 0, none⟩) (Kd.R_mono HO476.out (fun k_ hk => (⟨hk, hk.2⟩ : _ ∧ k_ ≠ gb481))) (fun _ hk => hk.2) (.int .i64 t477)) (fun _ hk => hk.2) (.int .i64 t478)) (fun _ hk => hk.2) (.string t479)) (fun _ h_ => h_.1))) hb); have n1_ := Aside0.mk (blk_below (g := gb481) (o := .cells #[.int .i64 t477, .int .i64 t478, .string t479] 26 (0, 0)) (by refine zB ?_; refine blk_put (cs := #[.int .i64 t477, .int .i64 t478, .string (⟨#[]⟩ : ByteArray)]) ?_ 2 _ rfl; refine zB ?_; refine blk_put (cs := #[.int .i64 t477, .int .i64 0, .string (⟨#[]⟩ : ByteArray)]) ?_ 1 _ rfl; refine zB ?_; refine blk_put (cs := #[.int .i64 0, .int .i64 0, .string (⟨#[]⟩ : ByteArray)]) ?_ 0 _ rfl; refine zB ?_; exact BK481.out) hb); have n2_ := Aside0.mk (below_step (by repeat first | with_reducible exact HB.out | refine zS ?_ | refine below_set ?_ GE481.out | exact HB.out) hb); clear HO476; clear BK481; clear HB; have HO476 := n0_; have BK481 := n1_; have HB := n2_; clear n0_ n1_ n2_; (try clear hb); (try clear hb2); (try clear hk); (try clear hi)) | ((with_reducible refine gate_dst (N := 8) rfl ?_); (try (refine gate_guard (by rfl) ?_; dsimp only)); refine box_event ?hg (N := 8) ?hd (cs := #[.int .i64 0, .int .i64 0, .string (⟨#[]⟩ : ByteArray), .bool false]) (t := 30) ?hr ?_; (case hd => rfl); (case hg => rfl); (case hr => first | (go_simp; done) | (go_simp; rfl)); intro gb486 hg w26 hbox hb; have n0_ := Aside0.mk (Kd.R_below (by (with_reducible repeat (first | apply Kd.R_alloc | apply Kd.R_drewN | apply Kd.R_drew)); exact HO476.out) hb); have n1_ := Aside0.mk (blk_below (g := gb481) (o := .cells #[.int .i64 t477, .int .i64 t478, .string t479] 26 (0, 0)) (zB BK481.out) hb); have n2_ := Aside0.mk (below_step (by repeat first | with_reducible exact HB.out | refine zS ?_ | refine below_set ?_ GE481.out | exact HB.out) hb); have n3_ := Aside0.mk (hbox); have n4_ := Aside0.mk ((by rw [hg]; exact (below_size (by repeat first | with_reducible exact HB.out | refine zS ?_ | refine below_set ?_ GE481.out | exact HB.out)) : w.heap.size ≤ gb486)); have n5_ := n4_; have n6_ := Aside0.mk ((by rw [hg]; exact Nat.ne_of_lt (blk_lt (g := gb481) (o := .cells #[.int .i64 t477, .int .i64 t478, .string t479] 26 (0, 0)) (zB BK481.out)) : gb481 ≠ gb486)); have n7_ := Aside0.mk ((by rw [hg]; exact Nat.ne_of_gt (blk_lt (g := gb481) (o := .cells #[.int .i64 t477, .int .i64 t478, .string t479] 26 (0, 0)) (zB BK481.out)) : gb486 ≠ gb481)); clear HO476; clear BK481; clear HB; have HO476 := n0_; have BK481 := n1_; have HB := n2_; have BK486 := n3_; have GW486 := n4_; have GE486 := n5_; have NB481_486 := n6_; have NB486_481 := n7_; clear n0_ n1_ n2_ n3_ n4_ n5_ n6_ n7_; clear hb hbox hg; have hnb27 := NB486_481.out; have hnc27 := NB481_486.out; obtain ⟨hcz28_0, hcz28_1, hcz28_2, hcz28_3, hfz28_0, hfz28_1, hfz28_2, hfz28_3⟩ := zC4 BK486.out; obtain ⟨hcz29_0, hcz29_1, hcz29_2, hfz29_0, hfz29_1, hfz29_2⟩ := zC3 BK481.out) | ((with_reducible refine gate_callee (f := 8) rfl ?_); refine goesL_ (some 33) rfl rfl Tryz.func8 (by kernel_rfl) rfl #[.agg #[.int .i64 t477, .int .i64 t478, .string t479], .agg #[.int .i64 t482, .int .i64 t483, .string t484]] rfl (by (try simp only [List.map_toArray, List.map_cons, List.map_nil]); first | done | rfl | (simp only [List.length_drop, List.length_take]; rfl)) ?_; (with_reducible refine (pannierkeep_Value.calls t477 t478 t479 t482 t483 t484 true _ A12.out).mono ?_); rintro e w30 ⟨rfl, hb⟩; refine ⟨_, rfl, ?_⟩; have n0_ := Aside0.mk (Kd.R_below (by (with_reducible repeat (first | apply Kd.R_alloc | apply Kd.R_drewN | apply Kd.R_drew)); exact (Kd.R_mono (Kd.R_far (p := ⟨gb486, 3, none⟩) (Kd.R_far (p := ⟨gb486, 2, none⟩) (Kd.R_far (p := ⟨gb486, 1, none⟩) (Kd.R_far (p := ⟨gb486, 0, none⟩) (Kd.R_types HO476.out BK486.out (by decide)) (fun _ hk => hk.2) (.int .i64 t482)) (fun _ hk => hk.2) (.int .i64 t483)) (fun _ hk => hk.2) (.string t484)) (fun _ hk => hk.2) (.bool t485)) (fun _ h_ => h_.1))) hb); have n1_ := Aside0.mk (blk_below (g := gb481) (o := .cells #[.int .i64 t477, .int .i64 t478, .string t479] 26 (0, 0)) (by refine zB (blk_far ?_ NB481_486.out _); refine zB ?_; refine blk_far ?_ NB481_486.out _; refine zB (blk_far ?_ NB481_486.out _); refine zB (blk_far ?_ NB481_486.out _); refine zB ?_; exact BK481.out) hb); have n2_ := Aside0.mk (blk_below (g := gb486) (o := .cells #[.int .i64 t482, .int .i64 t483, .string t484, .bool t485] 30 (0, 0)) (by refine zB ?_; refine blk_put (cs := #[.int .i64 t482, .int .i64 t483, .string t484, .bool false]) ?_ 3 _ rfl; refine zB ?_; refine blk_put (cs := #[.int .i64 t482, .int .i64 t483, .string (⟨#[]⟩ : ByteArray), .bool false]) ?_ 2 _ rfl; refine zB ?_; refine blk_put (cs := #[.int .i64 t482, .int .i64 0, .string (⟨#[]⟩ : ByteArray), .bool false]) ?_ 1 _ rfl; refine zB ?_; refine blk_put (cs := #[.int .i64 0, .int .i64 0, .string (⟨#[]⟩ : ByteArray), .bool false]) ?_ 0 _ rfl; refine zB ?_; exact BK486.out) hb); have n3_ := Aside0.mk (below_step (by repeat first | with_reducible exact HB.out | refine zS ?_ | refine below_set ?_ GE481.out | refine below_set ?_ GE486.out | exact HB.out) hb); clear HO476; clear BK481; clear BK486; clear HB; have HO476 := n0_; have BK481 := n1_; have BK486 := n2_; have HB := n3_; clear n0_ n1_ n2_ n3_; (try clear hb); (try clear hb2); (try clear hk); (try clear hi); obtain ⟨hcz31_0, hcz31_1, hcz31_2, hcz31_3, hfz31_0, hfz31_1, hfz31_2, hfz31_3⟩ := zC4 BK486.out) | (go_at_call 9; (with_reducible refine (pannierkeep_Values.calls kj2 _ _ y474 _ _ l1 true _ ?side1 ?side2 ?side3 ?side4 A15.out).mono ?_); (case side1 => repeat (first | exact (Kd.R_reads' HO476.out).2.2 | (with_reducible refine Kd.C_alloc ?_ _) | (with_reducible refine Kd.C_drewN ?_ _) | (with_reducible refine Kd.C_drew ?_))); (case side2 => exact (Kd.R_reads' HO476.out).2.1); (case side3 => repeat (first | exact (Kd.C_below HR1.out HB.out) | (with_reducible refine Kd.C_alloc ?_ _) | (with_reducible refine Kd.C_drewN ?_ _) | (with_reducible refine Kd.C_drew ?_))); (case side4 => exact HC1.out); rintro e w32 ⟨rfl, hb⟩; have n0_ := Aside0.mk (Kd.R_below (by (with_reducible repeat (first | apply Kd.R_alloc | apply Kd.R_drewN | apply Kd.R_drew)); exact HO476.out) hb); have n1_ := Aside0.mk (blk_below (g := gb481) (o := .cells #[.int .i64 t477, .int .i64 t478, .string t479] 26 (0, 0)) (zB BK481.out) hb); have n2_ := Aside0.mk (blk_below (g := gb486) (o := .cells #[.int .i64 t482, .int .i64 t483, .string t484, .bool t485] 30 (0, 0)) (zB BK486.out) hb); have n3_ := Aside0.mk (below_step (by repeat first | with_reducible exact HB.out | refine zS ?_ | refine below_set ?_ GE481.out | refine below_set ?_ GE486.out | exact HB.out) hb); clear HO476; clear BK481; clear BK486; clear HB; have HO476 := n0_; have BK481 := n1_; have BK486 := n2_; have HB := n3_; clear n0_ n1_ n2_ n3_; (try clear hb); (try clear hb2); (try clear hk); (try clear hi)) | (go_at_call 5; (with_reducible refine (pannierlaw10_wakes.calls  t489 _ ?side1 A17.out).mono ?_); (case side1 => exact gl_2_2 (by repeat first | with_reducible exact HB.out | refine zS ?_ | refine below_set ?_ GE481.out | refine below_set ?_ GE486.out | exact HB.out) hG); rintro e w33 ⟨rfl, hb⟩; have n0_ := Aside0.mk (Kd.R_below (by (with_reducible repeat (first | apply Kd.R_alloc | apply Kd.R_drewN | apply Kd.R_drew)); exact HO476.out) hb); have n1_ := Aside0.mk (blk_below (g := gb481) (o := .cells #[.int .i64 t477, .int .i64 t478, .string t479] 26 (0, 0)) (zB BK481.out) hb); have n2_ := Aside0.mk (blk_below (g := gb486) (o := .cells #[.int .i64 t482, .int .i64 t483, .string t484, .bool t485] 30 (0, 0)) (zB BK486.out) hb); have n3_ := Aside0.mk (below_step (by repeat first | with_reducible exact HB.out | refine zS ?_ | refine below_set ?_ GE481.out | refine below_set ?_ GE486.out | exact HB.out) hb); clear HO476; clear BK481; clear BK486; clear HB; have HO476 := n0_; have BK481 := n1_; have BK486 := n2_; have HB := n3_; clear n0_ n1_ n2_ n3_; (try clear hb); (try clear hb2); (try clear hk); (try clear hi)))
                go_ret
                exact ⟨by first | rfl | (simp [errW_none, errW_some] <;> rfl) | (simp [*, errW_none, errW_some] <;> rfl), by repeat first | with_reducible exact HB.out | refine zS ?_ | refine below_set ?_ GE481.out | refine below_set ?_ GE486.out | exact HB.out⟩
              · replace c16 := Bool.eq_false_iff.mpr c16
                subst c16
                have H1 : (none) = some r := by rw [if_neg (show ¬ (false = true) by decide)] at H; exact H
                clear H
                have H := H1
                clear H1
                exact absurd H (by simp)
            · rw [if_neg c14] at H
              exact absurd H (by simp)
          · replace c13 := Bool.eq_false_iff.mpr c13
            subst c13
            have H1 : (none) = some r := by rw [if_neg (show ¬ (false = true) by decide)] at H; exact H
            clear H
            have H := H1
            clear H1
            exact absurd H (by simp)
        · rw [if_neg c9] at H
          exact absurd H (by simp)
end Go.Proofs.YtmdmpafdpgdpoaaGreatDoor.P

namespace Go.Proofs.YtmdmpafdpgdpoaaGreatDoor.P
open Go.RowKit Go.Proofs.YtmdmpafdpgdpoaaGreatDoorW.PrintWords Go.Proofs.YtmdmpafdpgdpoaaGreatDoorW.PrintLast Go.Proofs.YtmdmpafdpgdpoaaGreatDoorW.PrintMore
open M (fit I64)
set_option linter.unusedVariables false
set_option linter.unusedSimpArgs false
theorem wakes10 : pannierlaw10_wakes.f = some true := by decide +kernel
theorem rdV {l : List S26} {i : Nat} (h : i < l.length) : rd_T26 l (i : Int) = l[i] := by
  unfold rd_T26; simp [List.getD_eq_getElem?_getD, h]
theorem wrap_next {i n : Nat} (h : i < n) (hn : n ≤ 4611686018427387904) : wrap64 ((i : Int) + 1) = ((i + 1 : Nat) : Int) := by
  rw [M.wrap64_id (by unfold I64; omega)]; omega
def fairB (l : List S26) : Bool := decide (∀ x ∈ l, x.f2.size ≤ 1000) && decide (l.length ≤ 500)
theorem fair_loop (l : List S26) (hl : l.length ≤ 4398046511104) (ha : ∀ x ∈ l.take 0, x.f2.size ≤ 1000) : ∀ (d i k : Nat), i + d = l.length → d < k → (∀ x ∈ l.take i, x.f2.size ≤ 1000) → pannierlaw10_Fair.l0 k l (i : Int) = some (fairB l) := by
  intro d
  induction d with
  | zero =>
    intro i k hi hk hall
    obtain ⟨k, rfl⟩ : ∃ m, k = m + 1 := ⟨k - 1, by omega⟩
    rw [pannierlaw10_Fair.l0, if_neg (by omega)]
    unfold fairB
    rw [List.take_of_length_le (by omega)] at hall
    rw [decide_eq_true hall, Bool.true_and]
    congr 1
    rw [decide_eq_decide]; omega
  | succ d ih =>
    intro i k hi hk hall
    obtain ⟨k, rfl⟩ : ∃ m, k = m + 1 := ⟨k - 1, by omega⟩
    have hlt : i < l.length := by omega
    rw [pannierlaw10_Fair.l0, if_pos (by omega), if_pos (by omega), rdV hlt]
    by_cases hs : ((l[i].f2.size : Nat) : Int) > 1000
    · rw [if_pos hs]
      have hf : fairB l = false := by
        unfold fairB
        rw [decide_eq_false, Bool.false_and]
        intro hh
        have := hh l[i] (List.getElem_mem hlt)
        omega
      rw [hf]
    · rw [if_neg hs, wrap_next hlt (by omega)]
      refine ih (i + 1) k (by omega) (by omega) (fun x hx => ?_)
      rw [List.take_succ_eq_append_getElem hlt, List.mem_append] at hx
      rcases hx with hx | hx
      · exact hall x hx
      · simp only [List.mem_singleton] at hx; subst hx; omega
theorem fair_eq (l : List S26) (k : Nat) (hl : l.length ≤ 4398046511104) (hk : l.length < k) : pannierlaw10_Fair.f k l = some (fairB l) := by
  have := fair_loop l hl (by simp) l.length 0 k (by omega) hk (by simp)
  exact this
theorem keepv_same (a b : Int) (s : ByteArray) (a' b' : Int) (s' : ByteArray) : pannierkeep_Value.f a b s a' b' s' = some (decide (a = a') && decide (b = b') && (s.toList == s'.toList)) := by
  unfold pannierkeep_Value.f
  by_cases h1 : a = a' <;> by_cases h2 : b = b' <;> simp [h1, h2]
theorem keepv_self (a b : Int) (s : ByteArray) : pannierkeep_Value.f a b s a b s = some true := by rw [keepv_same]; simp
end Go.Proofs.YtmdmpafdpgdpoaaGreatDoor.P

namespace Go.Proofs.YtmdmpafdpgdpoaaGreatDoor.P
open Go.RowKit Go.Proofs.YtmdmpafdpgdpoaaGreatDoorW.PrintWords Go.Proofs.YtmdmpafdpgdpoaaGreatDoorW.PrintLast Go.Proofs.YtmdmpafdpgdpoaaGreatDoorW.PrintMore
open M (fit I64 u64w)
set_option linter.unusedVariables false
set_option linter.unusedSimpArgs false
theorem whole_eq (a : Int) (ha : I64 a) : pannierref01_whole.f a = some (a.natAbs : Int) := by
  unfold pannierref01_whole.f; unfold I64 at ha
  split
  · rw [u64w, u64w]; unfold wrap64; congr 1; omega
  · rw [u64w]; congr 1; omega
theorem rsigned_eq (k : Nat) (u : Int) (b : Bool) (h0 : 0 ≤ u) (h1 : u < 18446744073709551616) : pannierref01_signed.f (k + 1) u b = some (fit (if b = true then -u else u)) := by
  unfold pannierref01_signed.f
  cases b
  · simp only [pannierref01_signed.j0, Bool.false_eq_true, if_false]
    by_cases h : u ≥ 9223372036854775808
    · rw [if_pos h, M.fit_out (by omega)]
    · rw [if_neg h, M.fit_in (by omega), M.wrap64_id (by unfold I64; omega)]
  · simp only [pannierref01_signed.j0, if_true, beq_iff_eq]
    by_cases h : u = 9223372036854775808
    · subst h; rfl
    · rw [if_neg h]
      by_cases h2 : u ≥ 9223372036854775808
      · rw [if_pos h2, M.fit_out (by omega)]
      · rw [if_neg h2, M.fit_in (by omega)]; congr 2; unfold wrap64; omega
theorem fit_pair (n : Int) : ((fit n).1, (fit n).2) = fit n := rfl
end Go.Proofs.YtmdmpafdpgdpoaaGreatDoor.P
