/- Contracts of the functions that the law reaches, each with the plain function that it comes to, and plain facts about these. -/
import Derived.WalkSmall
import Derived.LoopTactic
import Derived.Deep.RegionHeld3
import Derived.StillTailTactics
import Derived.Test.YtpcnaoipenclnaaGreatDoorBTL2
import Derived.Test.YtpcnaoipenclnaaGreatDoorBTL3
import Derived.Test.YtpcnaoipenclnaaGreatDoorBTL4
import Derived.Test.YtpcnaoipenclnaaGreatDoorBTL5
namespace Go.Proofs.YtpcnaoipenclnaaGreatDoor.P
open Go.RowKit Go.Proofs.YtpcnaoipenclnaaGreatDoorW.PrintWords Go.Proofs.YtpcnaoipenclnaaGreatDoorW.PrintLast Go.Proofs.YtpcnaoipenclnaaGreatDoorW.PrintMore
attribute [local go_sem] max2_int min2_int max_two min_two max_three min_three max_four min_four   -- for this text's walks alone
set_option linter.unusedVariables false
set_option linter.unusedSimpArgs false
def pannierlaw05_wakes.f (k : Nat)  : Option (Bool) := (tree_Parse.f k (⟨#[49, 43, 50, 42, 51]⟩ : ByteArray)).bind fun bt183 => ((tree_Parse.f k (⟨#[45, 50, 94, 50]⟩ : ByteArray)).bind fun bt198 => ((tree_Parse.f k (⟨#[49, 43]⟩ : ByteArray)).bind fun bt213 => (if bt183.2.2.2.2.2.2.2.2.2.2.2 = 0 then (if bt183.2.2.2.2.2.2.2.2.2.2.1 = 0 then (if bt183.1 = 5 then (if bt183.2.2.2.2.2.2.2.2.1.toList = ([43] : List UInt8) then (if (bt183.2.2.2.2.2.2.2.2.2.1.length : Int) = 2 then (if 1 < (bt183.2.2.2.2.2.2.2.2.2.1.length : Int) then (if ((rd_T31 bt183.2.2.2.2.2.2.2.2.2.1 1).f3).toList = ([42] : List UInt8) then (if bt198.2.2.2.2.2.2.2.2.2.2.2 = 0 then (if bt198.2.2.2.2.2.2.2.2.1.toList = ([94] : List UInt8) then (if bt213.2.2.2.2.2.2.2.2.2.2.2 = 13 then (if bt213.2.2.2.2.2.2.2.2.2.2.1 = 2 then ((tree_Good.f k bt183.1 bt183.2.1 bt183.2.2.1 bt183.2.2.2.1 bt183.2.2.2.2.1 bt183.2.2.2.2.2.1 bt183.2.2.2.2.2.2.1 bt183.2.2.2.2.2.2.2.1 bt183.2.2.2.2.2.2.2.2.1 bt183.2.2.2.2.2.2.2.2.2.1).bind fun t229 => (if t229 = true then ((tree_Depth.f k bt183.1 bt183.2.1 bt183.2.2.1 bt183.2.2.2.1 bt183.2.2.2.2.1 bt183.2.2.2.2.2.1 bt183.2.2.2.2.2.2.1 bt183.2.2.2.2.2.2.2.1 bt183.2.2.2.2.2.2.2.2.1 bt183.2.2.2.2.2.2.2.2.2.1).bind fun t230 => (some (t230 == 3))) else (none))) else (none)) else (none)) else (none)) else (none)) else (none)) else (none)) else (none)) else (none)) else (none)) else (none)) else (none))))
set_option maxHeartbeats 8000000 in
set_option maxRecDepth 100000 in
theorem pannierlaw05_wakes.calls (k : Nat)  (r : Bool) (w : World) (hG : G4 w) (h : pannierlaw05_wakes.f k  = some r) :
    Calls Tryz.prog 13 #[] w fun e w' => e = .returned (.bool r) ∧ Below w.heap.size w w' := by
  have hu31 := Tryz.underlying31
  have HB := Aside0.mk (Below.refl w.heap.size w)
  have H : ((tree_Parse.f k (⟨#[49, 43, 50, 42, 51]⟩ : ByteArray)).bind fun bt183 => ((tree_Parse.f k (⟨#[45, 50, 94, 50]⟩ : ByteArray)).bind fun bt198 => ((tree_Parse.f k (⟨#[49, 43]⟩ : ByteArray)).bind fun bt213 => (if bt183.2.2.2.2.2.2.2.2.2.2.2 = 0 then (if bt183.2.2.2.2.2.2.2.2.2.2.1 = 0 then (if bt183.1 = 5 then (if bt183.2.2.2.2.2.2.2.2.1.toList = ([43] : List UInt8) then (if (bt183.2.2.2.2.2.2.2.2.2.1.length : Int) = 2 then (if 1 < (bt183.2.2.2.2.2.2.2.2.2.1.length : Int) then (if ((rd_T31 bt183.2.2.2.2.2.2.2.2.2.1 1).f3).toList = ([42] : List UInt8) then (if bt198.2.2.2.2.2.2.2.2.2.2.2 = 0 then (if bt198.2.2.2.2.2.2.2.2.1.toList = ([94] : List UInt8) then (if bt213.2.2.2.2.2.2.2.2.2.2.2 = 13 then (if bt213.2.2.2.2.2.2.2.2.2.2.1 = 2 then ((tree_Good.f k bt183.1 bt183.2.1 bt183.2.2.1 bt183.2.2.2.1 bt183.2.2.2.2.1 bt183.2.2.2.2.2.1 bt183.2.2.2.2.2.2.1 bt183.2.2.2.2.2.2.2.1 bt183.2.2.2.2.2.2.2.2.1 bt183.2.2.2.2.2.2.2.2.2.1).bind fun t229 => (if t229 = true then ((tree_Depth.f k bt183.1 bt183.2.1 bt183.2.2.1 bt183.2.2.2.1 bt183.2.2.2.2.1 bt183.2.2.2.2.2.1 bt183.2.2.2.2.2.2.1 bt183.2.2.2.2.2.2.2.1 bt183.2.2.2.2.2.2.2.2.1 bt183.2.2.2.2.2.2.2.2.2.1).bind fun t230 => (some (t230 == 3))) else (none))) else (none)) else (none)) else (none)) else (none)) else (none)) else (none)) else (none)) else (none)) else (none)) else (none)) else (none))))) = some r := h
  clear h
  replace H := Option.bind_eq_some_iff.mp H
  obtain ⟨⟨t183, t184, t185, t186, t187, t188, t189, t190, t191, t192, t195, t196⟩, A10, H⟩ := H
  replace H : ((tree_Parse.f k (⟨#[45, 50, 94, 50]⟩ : ByteArray)).bind fun bt198 => ((tree_Parse.f k (⟨#[49, 43]⟩ : ByteArray)).bind fun bt213 => (if t196 = 0 then (if t195 = 0 then (if t183 = 5 then (if t191.toList = ([43] : List UInt8) then (if (t192.length : Int) = 2 then (if 1 < (t192.length : Int) then (if ((rd_T31 t192 1).f3).toList = ([42] : List UInt8) then (if bt198.2.2.2.2.2.2.2.2.2.2.2 = 0 then (if bt198.2.2.2.2.2.2.2.2.1.toList = ([94] : List UInt8) then (if bt213.2.2.2.2.2.2.2.2.2.2.2 = 13 then (if bt213.2.2.2.2.2.2.2.2.2.2.1 = 2 then ((tree_Good.f k t183 t184 t185 t186 t187 t188 t189 t190 t191 t192).bind fun t229 => (if t229 = true then ((tree_Depth.f k t183 t184 t185 t186 t187 t188 t189 t190 t191 t192).bind fun t230 => (some (t230 == 3))) else (none))) else (none)) else (none)) else (none)) else (none)) else (none)) else (none)) else (none)) else (none)) else (none)) else (none)) else (none)))) = some r := H
  have A1 := Aside0.mk A10
  clear A10
  replace H := Option.bind_eq_some_iff.mp H
  obtain ⟨⟨t198, t199, t200, t201, t202, t203, t204, t205, t206, t207, t210, t211⟩, A20, H⟩ := H
  replace H : ((tree_Parse.f k (⟨#[49, 43]⟩ : ByteArray)).bind fun bt213 => (if t196 = 0 then (if t195 = 0 then (if t183 = 5 then (if t191.toList = ([43] : List UInt8) then (if (t192.length : Int) = 2 then (if 1 < (t192.length : Int) then (if ((rd_T31 t192 1).f3).toList = ([42] : List UInt8) then (if t211 = 0 then (if t206.toList = ([94] : List UInt8) then (if bt213.2.2.2.2.2.2.2.2.2.2.2 = 13 then (if bt213.2.2.2.2.2.2.2.2.2.2.1 = 2 then ((tree_Good.f k t183 t184 t185 t186 t187 t188 t189 t190 t191 t192).bind fun t229 => (if t229 = true then ((tree_Depth.f k t183 t184 t185 t186 t187 t188 t189 t190 t191 t192).bind fun t230 => (some (t230 == 3))) else (none))) else (none)) else (none)) else (none)) else (none)) else (none)) else (none)) else (none)) else (none)) else (none)) else (none)) else (none))) = some r := H
  have A2 := Aside0.mk A20
  clear A20
  replace H := Option.bind_eq_some_iff.mp H
  obtain ⟨⟨t213, t214, t215, t216, t217, t218, t219, t220, t221, t222, t225, t226⟩, A30, H⟩ := H
  replace H : (if t196 = 0 then (if t195 = 0 then (if t183 = 5 then (if t191.toList = ([43] : List UInt8) then (if (t192.length : Int) = 2 then (if 1 < (t192.length : Int) then (if ((rd_T31 t192 1).f3).toList = ([42] : List UInt8) then (if t211 = 0 then (if t206.toList = ([94] : List UInt8) then (if t226 = 13 then (if t225 = 2 then ((tree_Good.f k t183 t184 t185 t186 t187 t188 t189 t190 t191 t192).bind fun t229 => (if t229 = true then ((tree_Depth.f k t183 t184 t185 t186 t187 t188 t189 t190 t191 t192).bind fun t230 => (some (t230 == 3))) else (none))) else (none)) else (none)) else (none)) else (none)) else (none)) else (none)) else (none)) else (none)) else (none)) else (none)) else (none)) = some r := H
  have A3 := Aside0.mk A30
  clear A30
  by_cases c4 : t196 = 0
  · rw [if_pos c4] at H
    have c4b0 : (t196 == 0) = true := beq_iff_eq.mpr c4
    have c4b1 : (t196 != 0) = false := bne_eq_false_iff_eq.mpr c4
    clear c4
    by_cases c5 : t195 = 0
    · rw [if_pos c5] at H
      have c5b0 : (t195 == 0) = true := beq_iff_eq.mpr c5
      have c5b1 : (t195 != 0) = false := bne_eq_false_iff_eq.mpr c5
      clear c5
      by_cases c6 : t183 = 5
      · rw [if_pos c6] at H
        have c6b0 : (t183 == 5) = true := beq_iff_eq.mpr c6
        have c6b1 : (t183 != 5) = false := bne_eq_false_iff_eq.mpr c6
        clear c6
        by_cases c7 : t191.toList = ([43] : List UInt8)
        · rw [if_pos c7] at H
          have c7b0 : (t191.toList == ([43] : List UInt8)) = true := beq_iff_eq.mpr c7
          have c7b1 : (t191.toList != ([43] : List UInt8)) = false := bne_eq_false_iff_eq.mpr c7
          clear c7
          by_cases c8 : (t192.length : Int) = 2
          · rw [if_pos c8] at H
            have c8b0 : ((t192.length : Int) == 2) = true := beq_iff_eq.mpr c8
            have c8b1 : ((t192.length : Int) != 2) = false := bne_eq_false_iff_eq.mpr c8
            clear c8
            by_cases c9 : 1 < (t192.length : Int)
            · rw [if_pos c9] at H
              have c9b0 : decide (1 < (t192.length : Int)) = true := decide_eq_true c9
              have c9b1 : decide (1 < t192.length) = true := decide_eq_true (by omega)
              clear c9
              by_cases c10 : ((rd_T31 t192 1).f3).toList = ([42] : List UInt8)
              · rw [if_pos c10] at H
                have c10b0 : (((rd_T31 t192 1).f3).toList == ([42] : List UInt8)) = true := beq_iff_eq.mpr c10
                have c10b1 : (((rd_T31 t192 1).f3).toList != ([42] : List UInt8)) = false := bne_eq_false_iff_eq.mpr c10
                clear c10
                by_cases c11 : t211 = 0
                · rw [if_pos c11] at H
                  have c11b0 : (t211 == 0) = true := beq_iff_eq.mpr c11
                  have c11b1 : (t211 != 0) = false := bne_eq_false_iff_eq.mpr c11
                  clear c11
                  by_cases c12 : t206.toList = ([94] : List UInt8)
                  · rw [if_pos c12] at H
                    have c12b0 : (t206.toList == ([94] : List UInt8)) = true := beq_iff_eq.mpr c12
                    have c12b1 : (t206.toList != ([94] : List UInt8)) = false := bne_eq_false_iff_eq.mpr c12
                    clear c12
                    by_cases c13 : t226 = 13
                    · rw [if_pos c13] at H
                      have c13b0 : (t226 == 13) = true := beq_iff_eq.mpr c13
                      have c13b1 : (t226 != 13) = false := bne_eq_false_iff_eq.mpr c13
                      clear c13
                      by_cases c14 : t225 = 2
                      · rw [if_pos c14] at H
                        have c14b0 : (t225 == 2) = true := beq_iff_eq.mpr c14
                        have c14b1 : (t225 != 2) = false := bne_eq_false_iff_eq.mpr c14
                        clear c14
                        replace H := Option.bind_eq_some_iff.mp H
                        obtain ⟨t229, A150, H⟩ := H
                        replace H : (if t229 = true then ((tree_Depth.f k t183 t184 t185 t186 t187 t188 t189 t190 t191 t192).bind fun t230 => (some (t230 == 3))) else (none)) = some r := H
                        have A15 := Aside0.mk A150
                        clear A150
                        by_cases c16 : t229 = true
                        · subst c16
                          have H1 : ((tree_Depth.f k t183 t184 t185 t186 t187 t188 t189 t190 t191 t192).bind fun t230 => (some (t230 == 3))) = some r := by rw [if_pos rfl] at H; exact H
                          clear H
                          have H := H1
                          clear H1
                          replace H := Option.bind_eq_some_iff.mp H
                          obtain ⟨t230, A170, H⟩ := H
                          replace H : (some (t230 == 3)) = some r := H
                          have A17 := Aside0.mk A170
                          clear A170
                          obtain rfl := Option.some.inj H
                          go_enter Tryz.func13, Tryz.ntmps13
                          go_wp2_with (first | ((with_reducible refine gate_callee (f := 14) rfl ?_); refine goesL_ (some 11) rfl rfl Tryz.func14 (by kernel_rfl) rfl #[.string (⟨#[49, 43, 50, 42, 51]⟩ : ByteArray)] rfl (by (try simp only [List.map_toArray, List.map_cons, List.map_nil]); first | done | rfl | (simp only [List.length_drop, List.length_take]; rfl)) ?_; (with_reducible refine (tree_Parse.calls k (⟨#[49, 43, 50, 42, 51]⟩ : ByteArray) t183 t184 t185 t186 t187 t188 t189 t190 t191 t192 t195 t196 _ ?side1 A1.out).mono ?_); (case side1 => exact gl_4_4 (by repeat first | with_reducible exact HB.out | apply zS | exact HB.out) hG); rintro e w18 ⟨v193, rfl, ho0, hb⟩; refine ⟨_, rfl, ?_⟩; have n0_ := Aside0.mk (Kd.V_lower (Kd.V_mono (ok' := fun k_ => True) ho0 (fun k_ hk_ => trivial)) (below_size (by repeat first | with_reducible exact HB.out | apply zS | exact HB.out))); have n1_ := Aside0.mk (below_step (by repeat first | with_reducible exact HB.out | apply zS | exact HB.out) hb); clear HB; have HO194 := n0_; have HB := n1_; clear n0_ n1_; (try clear hb); (try clear hb2); (try clear hk); (try clear hi); (try clear ho0)) | ((with_reducible refine gate_dst (N := 1) rfl ?_); (try (refine gate_guard (by rfl) ?_; dsimp only)); refine box_event ?hg (N := 1) ?hd (cs := #[.int .i64 0, .int .i64 0, .int .i64 0, .string (⟨#[]⟩ : ByteArray), .int .i64 0, .int .i64 0, .int .i64 0, .int .i64 0, .string (⟨#[]⟩ : ByteArray), .slice none 0 0]) (t := 31) ?hr ?_; (case hd => rfl); (case hg => rfl); (case hr => first | (go_simp; done) | (go_simp; rfl)); intro gb197 hg w19 hbox hb; have n0_ := Aside0.mk (Kd.V_below (Kd.V_elderB (by (with_reducible repeat (first | apply Kd.V_alloc | apply Kd.V_drewN | apply Kd.V_drew)); exact HO194.out) gb197 (Nat.le_of_eq hg.symm)) hb); have n1_ := Aside0.mk (below_step (by repeat first | with_reducible exact HB.out | apply zS | exact HB.out) hb); have n2_ := Aside0.mk (hbox); have n3_ := Aside0.mk ((by rw [hg]; exact (below_size (by repeat first | with_reducible exact HB.out | apply zS | exact HB.out)) : w.heap.size ≤ gb197)); have n4_ := n3_; clear HO194; clear HB; have HO194 := n0_; have HB := n1_; have BK197 := n2_; have GW197 := n3_; have GE197 := n4_; clear n0_ n1_ n2_ n3_ n4_; clear hb hbox hg; obtain ⟨hcz20_0, hcz20_1, hcz20_2, hcz20_3, hcz20_4, hcz20_5, hcz20_6, hcz20_7, hcz20_8, hcz20_9, hfz20_0, hfz20_1, hfz20_2, hfz20_3, hfz20_4, hfz20_5, hfz20_6, hfz20_7, hfz20_8, hfz20_9⟩ := zC10 BK197.out; obtain ⟨Ao21, co21, eo21⟩ := Kd.V_slice HO194.out; subst eo21) | ((with_reducible refine gate_callee (f := 14) rfl ?_); refine goesL_ (some 16) rfl rfl Tryz.func14 (by kernel_rfl) rfl #[.string (⟨#[45, 50, 94, 50]⟩ : ByteArray)] rfl (by (try simp only [List.map_toArray, List.map_cons, List.map_nil]); first | done | rfl | (simp only [List.length_drop, List.length_take]; rfl)) ?_; (with_reducible refine (tree_Parse.calls k (⟨#[45, 50, 94, 50]⟩ : ByteArray) t198 t199 t200 t201 t202 t203 t204 t205 t206 t207 t210 t211 _ ?side1 A2.out).mono ?_); (case side1 => exact gl_4_4 (by repeat first | with_reducible exact HB.out | apply zS | refine below_set ?_ GE197.out | exact HB.out) hG); rintro e w22 ⟨v208, rfl, ho0, hb⟩; refine ⟨_, rfl, ?_⟩; have n0_ := Aside0.mk (Kd.V_below (by (with_reducible repeat (first | apply Kd.V_alloc | apply Kd.V_drewN | apply Kd.V_drew)); exact (Kd.V_mono (Kd.V_far (p := ⟨gb197, 9, none⟩) (Kd.V_far (p := ⟨gb197, 8, none⟩) (Kd.V_far (p := ⟨gb197, 7, none⟩) (Kd.V_far (p := ⟨gb197, 6, none⟩) (Kd.V_far (p := ⟨gb197, 5, none⟩) (Kd.V_far (p := ⟨gb197, 4, none⟩) (Kd.V_far (p := ⟨gb197, 3, none⟩) (Kd.V_far (p := ⟨gb197, 2, none⟩) (Kd.V_far (p := ⟨gb197, 1, none⟩) (Kd.V_far (p := ⟨gb197, 0, none⟩) (Kd.V_mono HO194.out (fun k_ hk => (⟨hk, hk.2⟩ : _ ∧ k_ ≠ gb197))) (fun _ hk => hk.2) (.int .i64 t183)) (fun _ hk => hk.2) (.int .i64 t184)) (fun _ hk => hk.2) (.int .i64 t185)) (fun _ hk => hk.2) (.string t186)) (fun _ hk => hk.2) (.int .i64 t187)) (fun _ hk => hk.2) (.int .i64 t188)) (fun _ hk => hk.2) (.int .i64 t189)) (fun _ hk => hk.2) (.int .i64 t190)) (fun _ hk => hk.2) (.string t191)) (fun _ hk => hk.2) (.slice Ao21 t192.length co21)) (fun _ h_ => h_.1))) hb); have n1_ := Aside0.mk (Kd.V_lower (Kd.V_mono (ok' := fun k_ => k_ ≠ gb197) ho0 (fun k_ hk_ => (Kd.freshB (g := gb197) (o := .cells #[.int .i64 t183, .int .i64 t184, .int .i64 t185, .string t186, .int .i64 t187, .int .i64 t188, .int .i64 t189, .int .i64 t190, .string t191, .slice Ao21 t192.length co21] 31 (0, 0)) (by refine zB ?_; refine blk_put (cs := #[.int .i64 t183, .int .i64 t184, .int .i64 t185, .string t186, .int .i64 t187, .int .i64 t188, .int .i64 t189, .int .i64 t190, .string t191, .slice none 0 0]) ?_ 9 _ rfl; refine zB ?_; refine blk_put (cs := #[.int .i64 t183, .int .i64 t184, .int .i64 t185, .string t186, .int .i64 t187, .int .i64 t188, .int .i64 t189, .int .i64 t190, .string (⟨#[]⟩ : ByteArray), .slice none 0 0]) ?_ 8 _ rfl; refine zB ?_; refine blk_put (cs := #[.int .i64 t183, .int .i64 t184, .int .i64 t185, .string t186, .int .i64 t187, .int .i64 t188, .int .i64 t189, .int .i64 0, .string (⟨#[]⟩ : ByteArray), .slice none 0 0]) ?_ 7 _ rfl; refine zB ?_; refine blk_put (cs := #[.int .i64 t183, .int .i64 t184, .int .i64 t185, .string t186, .int .i64 t187, .int .i64 t188, .int .i64 0, .int .i64 0, .string (⟨#[]⟩ : ByteArray), .slice none 0 0]) ?_ 6 _ rfl; refine zB ?_; refine blk_put (cs := #[.int .i64 t183, .int .i64 t184, .int .i64 t185, .string t186, .int .i64 t187, .int .i64 0, .int .i64 0, .int .i64 0, .string (⟨#[]⟩ : ByteArray), .slice none 0 0]) ?_ 5 _ rfl; refine zB ?_; refine blk_put (cs := #[.int .i64 t183, .int .i64 t184, .int .i64 t185, .string t186, .int .i64 0, .int .i64 0, .int .i64 0, .int .i64 0, .string (⟨#[]⟩ : ByteArray), .slice none 0 0]) ?_ 4 _ rfl; refine zB ?_; refine blk_put (cs := #[.int .i64 t183, .int .i64 t184, .int .i64 t185, .string (⟨#[]⟩ : ByteArray), .int .i64 0, .int .i64 0, .int .i64 0, .int .i64 0, .string (⟨#[]⟩ : ByteArray), .slice none 0 0]) ?_ 3 _ rfl; refine zB ?_; refine blk_put (cs := #[.int .i64 t183, .int .i64 t184, .int .i64 0, .string (⟨#[]⟩ : ByteArray), .int .i64 0, .int .i64 0, .int .i64 0, .int .i64 0, .string (⟨#[]⟩ : ByteArray), .slice none 0 0]) ?_ 2 _ rfl; refine zB ?_; refine blk_put (cs := #[.int .i64 t183, .int .i64 0, .int .i64 0, .string (⟨#[]⟩ : ByteArray), .int .i64 0, .int .i64 0, .int .i64 0, .int .i64 0, .string (⟨#[]⟩ : ByteArray), .slice none 0 0]) ?_ 1 _ rfl; refine zB ?_; refine blk_put (cs := #[.int .i64 0, .int .i64 0, .int .i64 0, .string (⟨#[]⟩ : ByteArray), .int .i64 0, .int .i64 0, .int .i64 0, .int .i64 0, .string (⟨#[]⟩ : ByteArray), .slice none 0 0]) ?_ 0 _ rfl; refine zB ?_; exact BK197.out) k_ hk_))) (below_size (by repeat first | with_reducible exact HB.out | apply zS | refine below_set ?_ GE197.out | exact HB.out))); have n2_ := Aside0.mk (blk_below (g := gb197) (o := .cells #[.int .i64 t183, .int .i64 t184, .int .i64 t185, .string t186, .int .i64 t187, .int .i64 t188, .int .i64 t189, .int .i64 t190, .string t191, .slice Ao21 t192.length co21] 31 (0, 0)) (by refine zB ?_; refine blk_put (cs := #[.int .i64 t183, .int .i64 t184, .int .i64 t185, .string t186, .int .i64 t187, .int .i64 t188, .int .i64 t189, .int .i64 t190, .string t191, .slice none 0 0]) ?_ 9 _ rfl; refine zB ?_; refine blk_put (cs := #[.int .i64 t183, .int .i64 t184, .int .i64 t185, .string t186, .int .i64 t187, .int .i64 t188, .int .i64 t189, .int .i64 t190, .string (⟨#[]⟩ : ByteArray), .slice none 0 0]) ?_ 8 _ rfl; refine zB ?_; refine blk_put (cs := #[.int .i64 t183, .int .i64 t184, .int .i64 t185, .string t186, .int .i64 t187, .int .i64 t188, .int .i64 t189, .int .i64 0, .string (⟨#[]⟩ : ByteArray), .slice none 0 0]) ?_ 7 _ rfl; refine zB ?_; refine blk_put (cs := #[.int .i64 t183, .int .i64 t184, .int .i64 t185, .string t186, .int .i64 t187, .int .i64 t188, .int .i64 0, .int .i64 0, .string (⟨#[]⟩ : ByteArray), .slice none 0 0]) ?_ 6 _ rfl; refine zB ?_; refine blk_put (cs := #[.int .i64 t183, .int .i64 t184, .int .i64 t185, .string t186, .int .i64 t187, .int .i64 0, .int .i64 0, .int .i64 0, .string (⟨#[]⟩ : ByteArray), .slice none 0 0]) ?_ 5 _ rfl; refine zB ?_; refine blk_put (cs := #[.int .i64 t183, .int .i64 t184, .int .i64 t185, .string t186, .int .i64 0, .int .i64 0, .int .i64 0, .int .i64 0, .string (⟨#[]⟩ : ByteArray), .slice none 0 0]) ?_ 4 _ rfl; refine zB ?_; refine blk_put (cs := #[.int .i64 t183, .int .i64 t184, .int .i64 t185, .string (⟨#[]⟩ : ByteArray), .int .i64 0, .int .i64 0, .int .i64 0, .int .i64 0, .string (⟨#[]⟩ : ByteArray), .slice none 0 0]) ?_ 3 _ rfl; refine zB ?_; refine blk_put (cs := #[.int .i64 t183, .int .i64 t184, .int .i64 0, .string (⟨#[]⟩ : ByteArray), .int .i64 0, .int .i64 0, .int .i64 0, .int .i64 0, .string (⟨#[]⟩ : ByteArray), .slice none 0 0]) ?_ 2 _ rfl; refine zB ?_; refine blk_put (cs := #[.int .i64 t183, .int .i64 0, .int .i64 0, .string (⟨#[]⟩ : ByteArray), .int .i64 0, .int .i64 0, .int .i64 0, .int .i64 0, .string (⟨#[]⟩ : ByteArray), .slice none 0 0]) ?_ 1 _ rfl; refine zB ?_; refine blk_put (cs := #[.int .i64 0, .int .i64 0, .int .i64 0, .string (⟨#[]⟩ : ByteArray), .int .i64 0, .int .i64 0, .int .i64 0, .int .i64 0, .string (⟨#[]⟩ : ByteArray), .slice none 0 0]) ?_ 0 _ rfl; refine zB ?_; exact BK197.out) hb); have n3_ := Aside0.mk (below_step (by repeat first | with_reducible exact HB.out | apply zS | refine below_set ?_ GE197.out | exact HB.out) hb); clear HO194; clear BK197; clear HB; have HO194 := n0_; have HO209 := n1_; have BK197 := n2_; have HB := n3_; clear n0_ n1_ n2_ n3_; (try clear hb); (try clear hb2); (try clear hk); (try clear hi); (try clear ho0)) | ((with_reducible refine gate_dst (N := 4) rfl ?_); (try (refine gate_guard (by rfl) ?_; dsimp only)); refine box_event ?hg (N := 4) ?hd (cs := #[.int .i64 0, .int .i64 0, .int .i64 0, .string (⟨#[]⟩ : ByteArray), .int .i64 0, .int .i64 0, .int .i64 0, .int .i64 0, .string (⟨#[]⟩ : ByteArray), .slice none 0 0]) (t := 31) ?hr ?_; (case hd => rfl); (case hg => rfl); (case hr => first | (go_simp; done) | (go_simp; rfl)); intro gb212 hg w23 hbox hb; have n0_ := Aside0.mk (Kd.V_below (Kd.V_elderB (by (with_reducible repeat (first | apply Kd.V_alloc | apply Kd.V_drewN | apply Kd.V_drew)); exact HO194.out) gb212 (Nat.le_of_eq hg.symm)) hb); have n1_ := Aside0.mk (Kd.V_below (Kd.V_elderB (by (with_reducible repeat (first | apply Kd.V_alloc | apply Kd.V_drewN | apply Kd.V_drew)); exact HO209.out) gb212 (Nat.le_of_eq hg.symm)) hb); have n2_ := Aside0.mk (blk_below (g := gb197) (o := .cells #[.int .i64 t183, .int .i64 t184, .int .i64 t185, .string t186, .int .i64 t187, .int .i64 t188, .int .i64 t189, .int .i64 t190, .string t191, .slice Ao21 t192.length co21] 31 (0, 0)) (zB BK197.out) hb); have n3_ := Aside0.mk (below_step (by repeat first | with_reducible exact HB.out | apply zS | refine below_set ?_ GE197.out | exact HB.out) hb); have n4_ := Aside0.mk (hbox); have n5_ := Aside0.mk ((by rw [hg]; exact (below_size (by repeat first | with_reducible exact HB.out | apply zS | refine below_set ?_ GE197.out | exact HB.out)) : w.heap.size ≤ gb212)); have n6_ := n5_; have n7_ := Aside0.mk ((by rw [hg]; exact Nat.ne_of_lt (blk_lt (g := gb197) (o := .cells #[.int .i64 t183, .int .i64 t184, .int .i64 t185, .string t186, .int .i64 t187, .int .i64 t188, .int .i64 t189, .int .i64 t190, .string t191, .slice Ao21 t192.length co21] 31 (0, 0)) (zB BK197.out)) : gb197 ≠ gb212)); have n8_ := Aside0.mk ((by rw [hg]; exact Nat.ne_of_gt (blk_lt (g := gb197) (o := .cells #[.int .i64 t183, .int .i64 t184, .int .i64 t185, .string t186, .int .i64 t187, .int .i64 t188, .int .i64 t189, .int .i64 t190, .string t191, .slice Ao21 t192.length co21] 31 (0, 0)) (zB BK197.out)) : gb212 ≠ gb197)); clear HO194; clear HO209; clear BK197; clear HB; have HO194 := n0_; have HO209 := n1_; have BK197 := n2_; have HB := n3_; have BK212 := n4_; have GW212 := n5_; have GE212 := n6_; have NB197_212 := n7_; have NB212_197 := n8_; clear n0_ n1_ n2_ n3_ n4_ n5_ n6_ n7_ n8_; clear hb hbox hg; have hnb24 := NB212_197.out; have hnc24 := NB197_212.out; obtain ⟨hcz25_0, hcz25_1, hcz25_2, hcz25_3, hcz25_4, hcz25_5, hcz25_6, hcz25_7, hcz25_8, hcz25_9, hfz25_0, hfz25_1, hfz25_2, hfz25_3, hfz25_4, hfz25_5, hfz25_6, hfz25_7, hfz25_8, hfz25_9⟩ := zC10 BK212.out; obtain ⟨Ao26, co26, eo26⟩ := Kd.V_slice HO209.out; subst eo26) | ((with_reducible refine gate_callee (f := 14) rfl ?_); refine goesL_ (some 21) rfl rfl Tryz.func14 (by kernel_rfl) rfl #[.string (⟨#[49, 43]⟩ : ByteArray)] rfl (by (try simp only [List.map_toArray, List.map_cons, List.map_nil]); first | done | rfl | (simp only [List.length_drop, List.length_take]; rfl)) ?_; (with_reducible refine (tree_Parse.calls k (⟨#[49, 43]⟩ : ByteArray) t213 t214 t215 t216 t217 t218 t219 t220 t221 t222 t225 t226 _ ?side1 A3.out).mono ?_); (case side1 => exact gl_4_4 (by repeat first | with_reducible exact HB.out | apply zS | refine below_set ?_ GE197.out | refine below_set ?_ GE212.out | exact HB.out) hG); rintro e w27 ⟨v223, rfl, ho0, hb⟩; refine ⟨_, rfl, ?_⟩; have n0_ := Aside0.mk (Kd.V_below (by (with_reducible repeat (first | apply Kd.V_alloc | apply Kd.V_drewN | apply Kd.V_drew)); exact (Kd.V_mono (Kd.V_far (p := ⟨gb212, 9, none⟩) (Kd.V_far (p := ⟨gb212, 8, none⟩) (Kd.V_far (p := ⟨gb212, 7, none⟩) (Kd.V_far (p := ⟨gb212, 6, none⟩) (Kd.V_far (p := ⟨gb212, 5, none⟩) (Kd.V_far (p := ⟨gb212, 4, none⟩) (Kd.V_far (p := ⟨gb212, 3, none⟩) (Kd.V_far (p := ⟨gb212, 2, none⟩) (Kd.V_far (p := ⟨gb212, 1, none⟩) (Kd.V_far (p := ⟨gb212, 0, none⟩) (Kd.V_mono HO194.out (fun k_ hk => (⟨hk, hk.2⟩ : _ ∧ k_ ≠ gb212))) (fun _ hk => hk.2) (.int .i64 t198)) (fun _ hk => hk.2) (.int .i64 t199)) (fun _ hk => hk.2) (.int .i64 t200)) (fun _ hk => hk.2) (.string t201)) (fun _ hk => hk.2) (.int .i64 t202)) (fun _ hk => hk.2) (.int .i64 t203)) (fun _ hk => hk.2) (.int .i64 t204)) (fun _ hk => hk.2) (.int .i64 t205)) (fun _ hk => hk.2) (.string t206)) (fun _ hk => hk.2) (.slice Ao26 t207.length co26)) (fun _ h_ => h_.1))) hb); have n1_ := Aside0.mk (Kd.V_below (by (with_reducible repeat (first | apply Kd.V_alloc | apply Kd.V_drewN | apply Kd.V_drew)); exact (Kd.V_mono (Kd.V_far (p := ⟨gb212, 9, none⟩) (Kd.V_far (p := ⟨gb212, 8, none⟩) (Kd.V_far (p := ⟨gb212, 7, none⟩) (Kd.V_far (p := ⟨gb212, 6, none⟩) (Kd.V_far (p := ⟨gb212, 5, none⟩) (Kd.V_far (p := ⟨gb212, 4, none⟩) (Kd.V_far (p := ⟨gb212, 3, none⟩) (Kd.V_far (p := ⟨gb212, 2, none⟩) (Kd.V_far (p := ⟨gb212, 1, none⟩) (Kd.V_far (p := ⟨gb212, 0, none⟩) (Kd.V_mono HO209.out (fun k_ hk => (⟨hk, hk.2⟩ : _ ∧ k_ ≠ gb212))) (fun _ hk => hk.2) (.int .i64 t198)) (fun _ hk => hk.2) (.int .i64 t199)) (fun _ hk => hk.2) (.int .i64 t200)) (fun _ hk => hk.2) (.string t201)) (fun _ hk => hk.2) (.int .i64 t202)) (fun _ hk => hk.2) (.int .i64 t203)) (fun _ hk => hk.2) (.int .i64 t204)) (fun _ hk => hk.2) (.int .i64 t205)) (fun _ hk => hk.2) (.string t206)) (fun _ hk => hk.2) (.slice Ao26 t207.length co26)) (fun _ h_ => h_.1))) hb); have n2_ := Aside0.mk (Kd.V_lower (Kd.V_mono (ok' := fun k_ => k_ ≠ gb197 ∧ k_ ≠ gb212) ho0 (fun k_ hk_ => ⟨(Kd.freshB (g := gb197) (o := .cells #[.int .i64 t183, .int .i64 t184, .int .i64 t185, .string t186, .int .i64 t187, .int .i64 t188, .int .i64 t189, .int .i64 t190, .string t191, .slice Ao21 t192.length co21] 31 (0, 0)) (by refine zB (blk_far ?_ NB197_212.out _); refine zB ?_; refine blk_far ?_ NB197_212.out _; refine zB (blk_far ?_ NB197_212.out _); refine zB ?_; refine blk_far ?_ NB197_212.out _; refine zB (blk_far ?_ NB197_212.out _); refine zB ?_; refine blk_far ?_ NB197_212.out _; refine zB (blk_far ?_ NB197_212.out _); refine zB ?_; refine blk_far ?_ NB197_212.out _; refine zB (blk_far ?_ NB197_212.out _); refine zB (blk_far ?_ NB197_212.out _); refine zB ?_; exact BK197.out) k_ hk_), (Kd.freshB (g := gb212) (o := .cells #[.int .i64 t198, .int .i64 t199, .int .i64 t200, .string t201, .int .i64 t202, .int .i64 t203, .int .i64 t204, .int .i64 t205, .string t206, .slice Ao26 t207.length co26] 31 (0, 0)) (by refine zB ?_; refine blk_put (cs := #[.int .i64 t198, .int .i64 t199, .int .i64 t200, .string t201, .int .i64 t202, .int .i64 t203, .int .i64 t204, .int .i64 t205, .string t206, .slice none 0 0]) ?_ 9 _ rfl; refine zB ?_; refine blk_put (cs := #[.int .i64 t198, .int .i64 t199, .int .i64 t200, .string t201, .int .i64 t202, .int .i64 t203, .int .i64 t204, .int .i64 t205, .string (⟨#[]⟩ : ByteArray), .slice none 0 0]) ?_ 8 _ rfl; refine zB ?_; refine blk_put (cs := #[.int .i64 t198, .int .i64 t199, .int .i64 t200, .string t201, .int .i64 t202, .int .i64 t203, .int .i64 t204, .int .i64 0, .string (⟨#[]⟩ : ByteArray), .slice none 0 0]) ?_ 7 _ rfl; refine zB ?_; refine blk_put (cs := #[.int .i64 t198, .int .i64 t199, .int .i64 t200, .string t201, .int .i64 t202, .int .i64 t203, .int .i64 0, .int .i64 0, .string (⟨#[]⟩ : ByteArray), .slice none 0 0]) ?_ 6 _ rfl; refine zB ?_; refine blk_put (cs := #[.int .i64 t198, .int .i64 t199, .int .i64 t200, .string t201, .int .i64 t202, .int .i64 0, .int .i64 0, .int .i64 0, .string (⟨#[]⟩ : ByteArray), .slice none 0 0]) ?_ 5 _ rfl; refine zB ?_; refine blk_put (cs := #[.int .i64 t198, .int .i64 t199, .int .i64 t200, .string t201, .int .i64 0, .int .i64 0, .int .i64 0, .int .i64 0, .string (⟨#[]⟩ : ByteArray), .slice none 0 0]) ?_ 4 _ rfl; refine zB ?_; refine blk_put (cs := #[.int .i64 t198, .int .i64 t199, .int .i64 t200, .string (⟨#[]⟩ : ByteArray), .int .i64 0, .int .i64 0, .int .i64 0, .int .i64 0, .string (⟨#[]⟩ : ByteArray), .slice none 0 0]) ?_ 3 _ rfl; refine zB ?_; refine blk_put (cs := #[.int .i64 t198, .int .i64 t199, .int .i64 0, .string (⟨#[]⟩ : ByteArray), .int .i64 0, .int .i64 0, .int .i64 0, .int .i64 0, .string (⟨#[]⟩ : ByteArray), .slice none 0 0]) ?_ 2 _ rfl; refine zB ?_; refine blk_put (cs := #[.int .i64 t198, .int .i64 0, .int .i64 0, .string (⟨#[]⟩ : ByteArray), .int .i64 0, .int .i64 0, .int .i64 0, .int .i64 0, .string (⟨#[]⟩ : ByteArray), .slice none 0 0]) ?_ 1 _ rfl; refine zB ?_; refine blk_put (cs := #[.int .i64 0, .int .i64 0, .int .i64 0, .string (⟨#[]⟩ : ByteArray), .int .i64 0, .int .i64 0, .int .i64 0, .int .i64 0, .string (⟨#[]⟩ : ByteArray), .slice none 0 0]) ?_ 0 _ rfl; refine zB ?_; exact BK212.out) k_ hk_)⟩)) (below_size (by repeat first | with_reducible exact HB.out | apply zS | refine below_set ?_ GE197.out | refine below_set ?_ GE212.out | exact HB.out))); have n3_ := Aside0.mk (blk_below (g := gb197) (o := .cells #[.int .i64 t183, .int .i64 t184, .int .i64 t185, .string t186, .int .i64 t187, .int .i64 t188, .int .i64 t189, .int .i64 t190, .string t191, .slice Ao21 t192.length co21] 31 (0, 0)) (by refine zB (blk_far ?_ NB197_212.out _); refine zB ?_; refine blk_far ?_ NB197_212.out _; refine zB (blk_far ?_ NB197_212.out _); refine zB ?_; refine blk_far ?_ NB197_212.out _; refine zB (blk_far ?_ NB197_212.out _); refine zB ?_; refine blk_far ?_ NB197_212.out _; refine zB (blk_far ?_ NB197_212.out _); refine zB ?_; refine blk_far ?_ NB197_212.out _; refine zB (blk_far ?_ NB197_212.out _); refine zB (blk_far ?_ NB197_212.out _); refine zB ?_; exact BK197.out) hb); have n4_ := Aside0.mk (blk_below (g := gb212) (o := .cells #[.int .i64 t198, .int .i64 t199, .int .i64 t200, .string t201, .int .i64 t202, .int .i64 t203, .int .i64 t204, .int .i64 t205, .string t206, .slice Ao26 t207.length co26] 31 (0, 0)) (by refine zB ?_; refine blk_put (cs := #[.int .i64 t198, .int .i64 t199, .int .i64 t200, .string t201, .int .i64 t202, .int .i64 t203, .int .i64 t204, .int .i64 t205, .string t206, .slice none 0 0]) ?_ 9 _ rfl; refine zB ?_; refine blk_put (cs := #[.int .i64 t198, .int .i64 t199, .int .i64 t200, .string t201, .int .i64 t202, .int .i64 t203, .int .i64 t204, .int .i64 t205, .string (⟨#[]⟩ : ByteArray), .slice none 0 0]) ?_ 8 _ rfl; refine zB ?_; refine blk_put (cs := #[.int .i64 t198, .int .i64 t199, .int .i64 t200, .string t201, .int .i64 t202, .int .i64 t203, .int .i64 t204, .int .i64 0, .string (⟨#[]⟩ : ByteArray), .slice none 0 0]) ?_ 7 _ rfl; refine zB ?_; refine blk_put (cs := #[.int .i64 t198, .int .i64 t199, .int .i64 t200, .string t201, .int .i64 t202, .int .i64 t203, .int .i64 0, .int .i64 0, .string (⟨#[]⟩ : ByteArray), .slice none 0 0]) ?_ 6 _ rfl; refine zB ?_; refine blk_put (cs := #[.int .i64 t198, .int .i64 t199, .int .i64 t200, .string t201, .int .i64 t202, .int .i64 0, .int .i64 0, .int .i64 0, .string (⟨#[]⟩ : ByteArray), .slice none 0 0]) ?_ 5 _ rfl; refine zB ?_; refine blk_put (cs := #[.int .i64 t198, .int .i64 t199, .int .i64 t200, .string t201, .int .i64 0, .int .i64 0, .int .i64 0, .int .i64 0, .string (⟨#[]⟩ : ByteArray), .slice none 0 0]) ?_ 4 _ rfl; refine zB ?_; refine blk_put (cs := #[.int .i64 t198, .int .i64 t199, .int .i64 t200, .string (⟨#[]⟩ : ByteArray), .int .i64 0, .int .i64 0, .int .i64 0, .int .i64 0, .string (⟨#[]⟩ : ByteArray), .slice none 0 0]) ?_ 3 _ rfl; refine zB ?_; refine blk_put (cs := #[.int .i64 t198, .int .i64 t199, .int .i64 0, .string (⟨#[]⟩ : ByteArray), .int .i64 0, .int .i64 0, .int .i64 0, .int .i64 0, .string (⟨#[]⟩ : ByteArray), .slice none 0 0]) ?_ 2 _ rfl; refine zB ?_; refine blk_put (cs := #[.int .i64 t198, .int .i64 0, .int .i64 0, .string (⟨#[]⟩ : ByteArray), .int .i64 0, .int .i64 0, .int .i64 0, .int .i64 0, .string (⟨#[]⟩ : ByteArray), .slice none 0 0]) ?_ 1 _ rfl; refine zB ?_; refine blk_put (cs := #[.int .i64 0, .int .i64 0, .int .i64 0, .string (⟨#[]⟩ : ByteArray), .int .i64 0, .int .i64 0, .int .i64 0, .int .i64 0, .string (⟨#[]⟩ : ByteArray), .slice none 0 0]) ?_ 0 _ rfl; refine zB ?_; exact BK212.out) hb); have n5_ := Aside0.mk (below_step (by repeat first | with_reducible exact HB.out | apply zS | refine below_set ?_ GE197.out | refine below_set ?_ GE212.out | exact HB.out) hb); clear HO194; clear HO209; clear BK197; clear BK212; clear HB; have HO194 := n0_; have HO209 := n1_; have HO224 := n2_; have BK197 := n3_; have BK212 := n4_; have HB := n5_; clear n0_ n1_ n2_ n3_ n4_ n5_; (try clear hb); (try clear hb2); (try clear hk); (try clear hi); (try clear ho0)) | ((with_reducible refine gate_dst (N := 7) rfl ?_); (try (refine gate_guard (by rfl) ?_; dsimp only)); refine box_event ?hg (N := 7) ?hd (cs := #[.int .i64 0, .int .i64 0, .int .i64 0, .string (⟨#[]⟩ : ByteArray), .int .i64 0, .int .i64 0, .int .i64 0, .int .i64 0, .string (⟨#[]⟩ : ByteArray), .slice none 0 0]) (t := 31) ?hr ?_; (case hd => rfl); (case hg => rfl); (case hr => first | (go_simp; done) | (go_simp; rfl)); intro gb227 hg w28 hbox hb; have n0_ := Aside0.mk (Kd.V_below (Kd.V_elderB (by (with_reducible repeat (first | apply Kd.V_alloc | apply Kd.V_drewN | apply Kd.V_drew)); exact HO194.out) gb227 (Nat.le_of_eq hg.symm)) hb); have n1_ := Aside0.mk (Kd.V_below (Kd.V_elderB (by (with_reducible repeat (first | apply Kd.V_alloc | apply Kd.V_drewN | apply Kd.V_drew)); exact HO209.out) gb227 (Nat.le_of_eq hg.symm)) hb); have n2_ := Aside0.mk (Kd.V_below (Kd.V_elderB (by (with_reducible repeat (first | apply Kd.V_alloc | apply Kd.V_drewN | apply Kd.V_drew)); exact HO224.out) gb227 (Nat.le_of_eq hg.symm)) hb); have n3_ := Aside0.mk (blk_below (g := gb197) (o := .cells #[.int .i64 t183, .int .i64 t184, .int .i64 t185, .string t186, .int .i64 t187, .int .i64 t188, .int .i64 t189, .int .i64 t190, .string t191, .slice Ao21 t192.length co21] 31 (0, 0)) (zB BK197.out) hb); have n4_ := Aside0.mk (blk_below (g := gb212) (o := .cells #[.int .i64 t198, .int .i64 t199, .int .i64 t200, .string t201, .int .i64 t202, .int .i64 t203, .int .i64 t204, .int .i64 t205, .string t206, .slice Ao26 t207.length co26] 31 (0, 0)) (zB BK212.out) hb); have n5_ := Aside0.mk (below_step (by repeat first | with_reducible exact HB.out | apply zS | refine below_set ?_ GE197.out | refine below_set ?_ GE212.out | exact HB.out) hb); have n6_ := Aside0.mk (hbox); have n7_ := Aside0.mk ((by rw [hg]; exact (below_size (by repeat first | with_reducible exact HB.out | apply zS | refine below_set ?_ GE197.out | refine below_set ?_ GE212.out | exact HB.out)) : w.heap.size ≤ gb227)); have n8_ := n7_; have n9_ := Aside0.mk ((by rw [hg]; exact Nat.ne_of_lt (blk_lt (g := gb197) (o := .cells #[.int .i64 t183, .int .i64 t184, .int .i64 t185, .string t186, .int .i64 t187, .int .i64 t188, .int .i64 t189, .int .i64 t190, .string t191, .slice Ao21 t192.length co21] 31 (0, 0)) (zB BK197.out)) : gb197 ≠ gb227)); have n10_ := Aside0.mk ((by rw [hg]; exact Nat.ne_of_gt (blk_lt (g := gb197) (o := .cells #[.int .i64 t183, .int .i64 t184, .int .i64 t185, .string t186, .int .i64 t187, .int .i64 t188, .int .i64 t189, .int .i64 t190, .string t191, .slice Ao21 t192.length co21] 31 (0, 0)) (zB BK197.out)) : gb227 ≠ gb197)); have n11_ := Aside0.mk ((by rw [hg]; exact Nat.ne_of_lt (blk_lt (g := gb212) (o := .cells #[.int .i64 t198, .int .i64 t199, .int .i64 t200, .string t201, .int .i64 t202, .int .i64 t203, .int .i64 t204, .int .i64 t205, .string t206, .slice Ao26 t207.length co26] 31 (0, 0)) (zB BK212.out)) : gb212 ≠ gb227)); have n12_ := Aside0.mk ((by rw [hg]; exact Nat.ne_of_gt (blk_lt (g := gb212) (o := .cells #[.int .i64 t198, .int .i64 t199, .int .i64 t200, .string t201, .int .i64 t202, .int .i64 t203, .int .i64 t204, .int .i64 t205, .string t206, .slice Ao26 t207.length co26] 31 (0, 0)) (zB BK212.out)) : gb227 ≠ gb212)); clear HO194; clear HO209; clear HO224; clear BK197; clear BK212; clear HB; have HO194 := n0_; have HO209 := n1_; have HO224 := n2_; have BK197 := n3_; have BK212 := n4_; have HB := n5_; have BK227 := n6_; have GW227 := n7_; have GE227 := n8_; have NB197_227 := n9_; have NB227_197 := n10_; have NB212_227 := n11_; have NB227_212 := n12_; clear n0_ n1_ n2_ n3_ n4_ n5_ n6_ n7_ n8_ n9_ n10_ n11_ n12_; clear hb hbox hg; have hnb29 := NB227_197.out; have hnc29 := NB197_227.out; have hnb30 := NB227_212.out; have hnc30 := NB212_227.out; obtain ⟨hcz31_0, hcz31_1, hcz31_2, hcz31_3, hcz31_4, hcz31_5, hcz31_6, hcz31_7, hcz31_8, hcz31_9, hfz31_0, hfz31_1, hfz31_2, hfz31_3, hfz31_4, hfz31_5, hfz31_6, hfz31_7, hfz31_8, hfz31_9⟩ := zC10 BK227.out; obtain ⟨Ao32, co32, eo32⟩ := Kd.V_slice HO224.out; subst eo32) | ((with_reducible refine gate_store (t := 31) (p := 7) rfl ?_); refine store_event (t := 31) (p := 7) (v := ?vo_w33) (w1 := ((((((((((w28.setCell ⟨gb227, 0, none⟩ (.int .i64 t213)).setCell ⟨gb227, 1, none⟩ (.int .i64 t214)).setCell ⟨gb227, 2, none⟩ (.int .i64 t215)).setCell ⟨gb227, 3, none⟩ (.string t216)).setCell ⟨gb227, 4, none⟩ (.int .i64 t217)).setCell ⟨gb227, 5, none⟩ (.int .i64 t218)).setCell ⟨gb227, 6, none⟩ (.int .i64 t219)).setCell ⟨gb227, 7, none⟩ (.int .i64 t220)).setCell ⟨gb227, 8, none⟩ (.string t221)).setCell ⟨gb227, 9, none⟩ (.slice Ao32 t222.length co32))) ?hg ?ho ?hn ?hr ?_; (case ho => rfl); (case hg => rfl); (case hn => rfl); (case hr => first | (go_simp; done) | (go_simp; rfl)); intro w33 hw; have n0_ : Aside0 (Kd.V k31 31 w33 w.heap.size (fun k_ => k_ ≠ gb197 ∧ k_ ≠ gb212 ∧ k_ ≠ gb227) (.slice Ao21 t192.length co21) t192) := ⟨(by rw [hw]; exact (by (with_reducible repeat (first | apply Kd.V_alloc | apply Kd.V_drewN | apply Kd.V_drew)); exact Kd.V_mono (Kd.V_far (p := ⟨gb227, 9, none⟩) (Kd.V_far (p := ⟨gb227, 8, none⟩) (Kd.V_far (p := ⟨gb227, 7, none⟩) (Kd.V_far (p := ⟨gb227, 6, none⟩) (Kd.V_far (p := ⟨gb227, 5, none⟩) (Kd.V_far (p := ⟨gb227, 4, none⟩) (Kd.V_far (p := ⟨gb227, 3, none⟩) (Kd.V_far (p := ⟨gb227, 2, none⟩) (Kd.V_far (p := ⟨gb227, 1, none⟩) (Kd.V_far (p := ⟨gb227, 0, none⟩) (Kd.V_mono HO194.out (fun k_ hk => (⟨hk, hk.2⟩ : _ ∧ k_ ≠ gb227))) (fun _ hk => hk.2) (.int .i64 t213)) (fun _ hk => hk.2) (.int .i64 t214)) (fun _ hk => hk.2) (.int .i64 t215)) (fun _ hk => hk.2) (.string t216)) (fun _ hk => hk.2) (.int .i64 t217)) (fun _ hk => hk.2) (.int .i64 t218)) (fun _ hk => hk.2) (.int .i64 t219)) (fun _ hk => hk.2) (.int .i64 t220)) (fun _ hk => hk.2) (.string t221)) (fun _ hk => hk.2) (.slice Ao32 t222.length co32)) (fun _ hk => ⟨hk.1.1.1.2, ⟨hk.1.1.2, hk.1.2⟩⟩)))⟩; have n1_ : Aside0 (Kd.V k31 31 w33 w.heap.size (fun k_ => k_ ≠ gb197 ∧ k_ ≠ gb212 ∧ k_ ≠ gb227) (.slice Ao26 t207.length co26) t207) := ⟨(by rw [hw]; exact (by (with_reducible repeat (first | apply Kd.V_alloc | apply Kd.V_drewN | apply Kd.V_drew)); exact Kd.V_mono (Kd.V_far (p := ⟨gb227, 9, none⟩) (Kd.V_far (p := ⟨gb227, 8, none⟩) (Kd.V_far (p := ⟨gb227, 7, none⟩) (Kd.V_far (p := ⟨gb227, 6, none⟩) (Kd.V_far (p := ⟨gb227, 5, none⟩) (Kd.V_far (p := ⟨gb227, 4, none⟩) (Kd.V_far (p := ⟨gb227, 3, none⟩) (Kd.V_far (p := ⟨gb227, 2, none⟩) (Kd.V_far (p := ⟨gb227, 1, none⟩) (Kd.V_far (p := ⟨gb227, 0, none⟩) (Kd.V_mono HO209.out (fun k_ hk => (⟨hk, hk.2⟩ : _ ∧ k_ ≠ gb227))) (fun _ hk => hk.2) (.int .i64 t213)) (fun _ hk => hk.2) (.int .i64 t214)) (fun _ hk => hk.2) (.int .i64 t215)) (fun _ hk => hk.2) (.string t216)) (fun _ hk => hk.2) (.int .i64 t217)) (fun _ hk => hk.2) (.int .i64 t218)) (fun _ hk => hk.2) (.int .i64 t219)) (fun _ hk => hk.2) (.int .i64 t220)) (fun _ hk => hk.2) (.string t221)) (fun _ hk => hk.2) (.slice Ao32 t222.length co32)) (fun _ hk => ⟨hk.1.1.1, ⟨hk.1.1.2, hk.1.2⟩⟩)))⟩; have n2_ : Aside0 (Kd.V k31 31 w33 w.heap.size (fun k_ => k_ ≠ gb197 ∧ k_ ≠ gb212 ∧ k_ ≠ gb227) (.slice Ao32 t222.length co32) t222) := ⟨(by rw [hw]; exact (by (with_reducible repeat (first | apply Kd.V_alloc | apply Kd.V_drewN | apply Kd.V_drew)); exact Kd.V_mono (Kd.V_far (p := ⟨gb227, 9, none⟩) (Kd.V_far (p := ⟨gb227, 8, none⟩) (Kd.V_far (p := ⟨gb227, 7, none⟩) (Kd.V_far (p := ⟨gb227, 6, none⟩) (Kd.V_far (p := ⟨gb227, 5, none⟩) (Kd.V_far (p := ⟨gb227, 4, none⟩) (Kd.V_far (p := ⟨gb227, 3, none⟩) (Kd.V_far (p := ⟨gb227, 2, none⟩) (Kd.V_far (p := ⟨gb227, 1, none⟩) (Kd.V_far (p := ⟨gb227, 0, none⟩) (Kd.V_mono HO224.out (fun k_ hk => (⟨hk, hk.2⟩ : _ ∧ k_ ≠ gb227))) (fun _ hk => hk.2) (.int .i64 t213)) (fun _ hk => hk.2) (.int .i64 t214)) (fun _ hk => hk.2) (.int .i64 t215)) (fun _ hk => hk.2) (.string t216)) (fun _ hk => hk.2) (.int .i64 t217)) (fun _ hk => hk.2) (.int .i64 t218)) (fun _ hk => hk.2) (.int .i64 t219)) (fun _ hk => hk.2) (.int .i64 t220)) (fun _ hk => hk.2) (.string t221)) (fun _ hk => hk.2) (.slice Ao32 t222.length co32)) (fun _ hk => ⟨hk.1.1.1, ⟨hk.1.1.2, hk.1.2⟩⟩)))⟩; have n3_ : Aside0 (w33.heap[gb197]? = some (.cells #[.int .i64 t183, .int .i64 t184, .int .i64 t185, .string t186, .int .i64 t187, .int .i64 t188, .int .i64 t189, .int .i64 t190, .string t191, .slice Ao21 t192.length co21] 31 (0, 0))) := ⟨(by rw [hw]; exact (by refine zB (blk_far ?_ NB197_227.out _); refine zB ?_; refine blk_far ?_ NB197_227.out _; refine zB (blk_far ?_ NB197_227.out _); refine zB ?_; refine blk_far ?_ NB197_227.out _; refine zB (blk_far ?_ NB197_227.out _); refine zB ?_; refine blk_far ?_ NB197_227.out _; refine zB (blk_far ?_ NB197_227.out _); refine zB ?_; refine blk_far ?_ NB197_227.out _; refine zB (blk_far ?_ NB197_227.out _); refine zB (blk_far ?_ NB197_227.out _); refine zB ?_; exact BK197.out))⟩; have n4_ : Aside0 (w33.heap[gb212]? = some (.cells #[.int .i64 t198, .int .i64 t199, .int .i64 t200, .string t201, .int .i64 t202, .int .i64 t203, .int .i64 t204, .int .i64 t205, .string t206, .slice Ao26 t207.length co26] 31 (0, 0))) := ⟨(by rw [hw]; exact (by refine zB (blk_far ?_ NB212_227.out _); refine zB ?_; refine blk_far ?_ NB212_227.out _; refine zB (blk_far ?_ NB212_227.out _); refine zB ?_; refine blk_far ?_ NB212_227.out _; refine zB (blk_far ?_ NB212_227.out _); refine zB ?_; refine blk_far ?_ NB212_227.out _; refine zB (blk_far ?_ NB212_227.out _); refine zB ?_; refine blk_far ?_ NB212_227.out _; refine zB (blk_far ?_ NB212_227.out _); refine zB (blk_far ?_ NB212_227.out _); refine zB ?_; exact BK212.out))⟩; have n5_ : Aside0 (w33.heap[gb227]? = some (.cells #[.int .i64 t213, .int .i64 t214, .int .i64 t215, .string t216, .int .i64 t217, .int .i64 t218, .int .i64 t219, .int .i64 t220, .string t221, .slice Ao32 t222.length co32] 31 (0, 0))) := ⟨(by rw [hw]; exact (by refine zB ?_; refine blk_put (cs := #[.int .i64 t213, .int .i64 t214, .int .i64 t215, .string t216, .int .i64 t217, .int .i64 t218, .int .i64 t219, .int .i64 t220, .string t221, .slice none 0 0]) ?_ 9 _ rfl; refine zB ?_; refine blk_put (cs := #[.int .i64 t213, .int .i64 t214, .int .i64 t215, .string t216, .int .i64 t217, .int .i64 t218, .int .i64 t219, .int .i64 t220, .string (⟨#[]⟩ : ByteArray), .slice none 0 0]) ?_ 8 _ rfl; refine zB ?_; refine blk_put (cs := #[.int .i64 t213, .int .i64 t214, .int .i64 t215, .string t216, .int .i64 t217, .int .i64 t218, .int .i64 t219, .int .i64 0, .string (⟨#[]⟩ : ByteArray), .slice none 0 0]) ?_ 7 _ rfl; refine zB ?_; refine blk_put (cs := #[.int .i64 t213, .int .i64 t214, .int .i64 t215, .string t216, .int .i64 t217, .int .i64 t218, .int .i64 0, .int .i64 0, .string (⟨#[]⟩ : ByteArray), .slice none 0 0]) ?_ 6 _ rfl; refine zB ?_; refine blk_put (cs := #[.int .i64 t213, .int .i64 t214, .int .i64 t215, .string t216, .int .i64 t217, .int .i64 0, .int .i64 0, .int .i64 0, .string (⟨#[]⟩ : ByteArray), .slice none 0 0]) ?_ 5 _ rfl; refine zB ?_; refine blk_put (cs := #[.int .i64 t213, .int .i64 t214, .int .i64 t215, .string t216, .int .i64 0, .int .i64 0, .int .i64 0, .int .i64 0, .string (⟨#[]⟩ : ByteArray), .slice none 0 0]) ?_ 4 _ rfl; refine zB ?_; refine blk_put (cs := #[.int .i64 t213, .int .i64 t214, .int .i64 t215, .string (⟨#[]⟩ : ByteArray), .int .i64 0, .int .i64 0, .int .i64 0, .int .i64 0, .string (⟨#[]⟩ : ByteArray), .slice none 0 0]) ?_ 3 _ rfl; refine zB ?_; refine blk_put (cs := #[.int .i64 t213, .int .i64 t214, .int .i64 0, .string (⟨#[]⟩ : ByteArray), .int .i64 0, .int .i64 0, .int .i64 0, .int .i64 0, .string (⟨#[]⟩ : ByteArray), .slice none 0 0]) ?_ 2 _ rfl; refine zB ?_; refine blk_put (cs := #[.int .i64 t213, .int .i64 0, .int .i64 0, .string (⟨#[]⟩ : ByteArray), .int .i64 0, .int .i64 0, .int .i64 0, .int .i64 0, .string (⟨#[]⟩ : ByteArray), .slice none 0 0]) ?_ 1 _ rfl; refine zB ?_; refine blk_put (cs := #[.int .i64 0, .int .i64 0, .int .i64 0, .string (⟨#[]⟩ : ByteArray), .int .i64 0, .int .i64 0, .int .i64 0, .int .i64 0, .string (⟨#[]⟩ : ByteArray), .slice none 0 0]) ?_ 0 _ rfl; refine zB ?_; exact BK227.out))⟩; have n6_ : Aside0 (Below w.heap.size w w33) := ⟨(by rw [hw]; exact (by repeat first | with_reducible exact HB.out | apply zS | refine below_set ?_ GE197.out | refine below_set ?_ GE212.out | refine below_set ?_ GE227.out | exact HB.out))⟩; clear hw; clear HO194; clear HO209; clear HO224; clear BK197; clear BK212; clear BK227; clear HB; have HO194 := n0_; have HO209 := n1_; have HO224 := n2_; have BK197 := n3_; have BK212 := n4_; have BK227 := n5_; have HB := n6_; clear n0_ n1_ n2_ n3_ n4_ n5_ n6_; obtain ⟨hcz34_0, hcz34_1, hcz34_2, hcz34_3, hcz34_4, hcz34_5, hcz34_6, hcz34_7, hcz34_8, hcz34_9, hfz34_0, hfz34_1, hfz34_2, hfz34_3, hfz34_4, hfz34_5, hfz34_6, hfz34_7, hfz34_8, hfz34_9⟩ := zC10 BK197.out; have p228 : 0 ≤ (1 : Int) := (by omega); have q228 : 1 < (t192.length : Int) := of_decide_eq_true (by first | (with_reducible assumption) | assumption); obtain ⟨ad228, A228_9, c228_9, e228, hx228_0, hx228_1, hx228_2, hx228_3, hx228_4, hx228_5, hx228_6, hx228_7, hx228_8, hx228_9, hl228_9, hi228_9⟩ := at_T31 (Kd.V_reads' HO194.out).2.2 1 p228 q228; cases e228; obtain ⟨ce228, hce228, hMe228, hcc228⟩ := Kd.V_get HO194.out z31 1 p228 (by first | exact q228 | exact of_decide_eq_true (by first | (with_reducible assumption) | assumption) | (have e_ := (Kd.V_reads' HO194.out).1; omega)); obtain ⟨ua228_9, uc228_9, rfl, ul228_9, ge228_9⟩ := k31_openF hMe228; have hv228_9 := hcc228 9 _ rfl; rw [add_field _ _ 9 (by omega)] at hv228_9; replace hv228_9 := Option.some.inj (hv228_9.symm.trans hx228_9); injection hv228_9 with hva_ hvn_ hvc_; rw [hva_] at ge228_9; rw [hvc_] at ul228_9; have HL228_9 := Aside0.mk (show Kd.V k31 31 _ w.heap.size _ _ ((rd_T31 t192 1).f4) from Kd.V_mk ul228_9 ge228_9); clear hva_ hvn_ hvc_ ge228_9 ul228_9; clear hcc228 hce228; (try simp only [show (1 : Int).toNat = 1 from rfl, Nat.reduceMul, Nat.reduceEqDiff, Go.Addr.add, ↓reduceIte] at hx228_0); (try simp only [show (1 : Int).toNat = 1 from rfl, Nat.reduceMul, Nat.reduceEqDiff, Go.Addr.add, ↓reduceIte] at hx228_1); (try simp only [show (1 : Int).toNat = 1 from rfl, Nat.reduceMul, Nat.reduceEqDiff, Go.Addr.add, ↓reduceIte] at hx228_2); (try simp only [show (1 : Int).toNat = 1 from rfl, Nat.reduceMul, Nat.reduceEqDiff, Go.Addr.add, ↓reduceIte] at hx228_3); (try simp only [show (1 : Int).toNat = 1 from rfl, Nat.reduceMul, Nat.reduceEqDiff, Go.Addr.add, ↓reduceIte] at hx228_4); (try simp only [show (1 : Int).toNat = 1 from rfl, Nat.reduceMul, Nat.reduceEqDiff, Go.Addr.add, ↓reduceIte] at hx228_5); (try simp only [show (1 : Int).toNat = 1 from rfl, Nat.reduceMul, Nat.reduceEqDiff, Go.Addr.add, ↓reduceIte] at hx228_6); (try simp only [show (1 : Int).toNat = 1 from rfl, Nat.reduceMul, Nat.reduceEqDiff, Go.Addr.add, ↓reduceIte] at hx228_7); (try simp only [show (1 : Int).toNat = 1 from rfl, Nat.reduceMul, Nat.reduceEqDiff, Go.Addr.add, ↓reduceIte] at hx228_8); (try simp only [show (1 : Int).toNat = 1 from rfl, Nat.reduceMul, Nat.reduceEqDiff, Go.Addr.add, ↓reduceIte] at hx228_9); have qi228 : (1 < t192.length) = True := eq_true (by omega); (try rw [show ((1 : Int)).toNat = 1 from rfl] at hx228_0); (try rw [show 1 * 10 = 10 from rfl] at hx228_0); (try rw [show ((1 : Int)).toNat = 1 from rfl] at hx228_1); (try rw [show 1 * 10 = 10 from rfl] at hx228_1); (try rw [show ((1 : Int)).toNat = 1 from rfl] at hx228_2); (try rw [show 1 * 10 = 10 from rfl] at hx228_2); (try rw [show ((1 : Int)).toNat = 1 from rfl] at hx228_3); (try rw [show 1 * 10 = 10 from rfl] at hx228_3); (try rw [show ((1 : Int)).toNat = 1 from rfl] at hx228_4); (try rw [show 1 * 10 = 10 from rfl] at hx228_4); (try rw [show ((1 : Int)).toNat = 1 from rfl] at hx228_5); (try rw [show 1 * 10 = 10 from rfl] at hx228_5); (try rw [show ((1 : Int)).toNat = 1 from rfl] at hx228_6); (try rw [show 1 * 10 = 10 from rfl] at hx228_6); (try rw [show ((1 : Int)).toNat = 1 from rfl] at hx228_7); (try rw [show 1 * 10 = 10 from rfl] at hx228_7); (try rw [show ((1 : Int)).toNat = 1 from rfl] at hx228_8); (try rw [show 1 * 10 = 10 from rfl] at hx228_8); (try rw [show ((1 : Int)).toNat = 1 from rfl] at hx228_9); (try rw [show 1 * 10 = 10 from rfl] at hx228_9); have HR228_9 := Aside0.mk hi228_9; have HC228_9 := Aside0.mk hl228_9; clear hi228_9 hl228_9; replace p228 := eq_true p228; replace q228 := eq_true q228; obtain ⟨hcz35_0, hcz35_1, hcz35_2, hcz35_3, hcz35_4, hcz35_5, hcz35_6, hcz35_7, hcz35_8, hcz35_9, hfz35_0, hfz35_1, hfz35_2, hfz35_3, hfz35_4, hfz35_5, hfz35_6, hfz35_7, hfz35_8, hfz35_9⟩ := zC10 BK212.out) | (go_at_call 17; (with_reducible refine (tree_Good.calls k t183 t184 t185 t186 t187 t188 t189 t190 t191 _ _ t192 true _ ?side1 ?side2 A15.out).mono ?_); (case side1 => repeat (first | exact (Kd.V_reads' HO194.out).2.2 | (with_reducible refine Kd.C_alloc ?_ _) | (with_reducible refine Kd.C_drewN ?_ _) | (with_reducible refine Kd.C_drew ?_))); (case side2 => exact (Kd.V_reads' HO194.out).2.1); rintro e w36 ⟨rfl, hb⟩; have n0_ := Aside0.mk (Kd.V_below (by (with_reducible repeat (first | apply Kd.V_alloc | apply Kd.V_drewN | apply Kd.V_drew)); exact HO194.out) hb); have n1_ := Aside0.mk (Kd.V_below (by (with_reducible repeat (first | apply Kd.V_alloc | apply Kd.V_drewN | apply Kd.V_drew)); exact HO209.out) hb); have n2_ := Aside0.mk (Kd.V_below (by (with_reducible repeat (first | apply Kd.V_alloc | apply Kd.V_drewN | apply Kd.V_drew)); exact HO224.out) hb); have n3_ := Aside0.mk (Kd.V_below (by (with_reducible repeat (first | apply Kd.V_alloc | apply Kd.V_drewN | apply Kd.V_drew)); exact HL228_9.out) hb); have n4_ := Aside0.mk (blk_below (g := gb197) (o := .cells #[.int .i64 t183, .int .i64 t184, .int .i64 t185, .string t186, .int .i64 t187, .int .i64 t188, .int .i64 t189, .int .i64 t190, .string t191, .slice (some ad228) t192.length co21] 31 (0, 0)) (zB BK197.out) hb); have n5_ := Aside0.mk (blk_below (g := gb212) (o := .cells #[.int .i64 t198, .int .i64 t199, .int .i64 t200, .string t201, .int .i64 t202, .int .i64 t203, .int .i64 t204, .int .i64 t205, .string t206, .slice Ao26 t207.length co26] 31 (0, 0)) (zB BK212.out) hb); have n6_ := Aside0.mk (blk_below (g := gb227) (o := .cells #[.int .i64 t213, .int .i64 t214, .int .i64 t215, .string t216, .int .i64 t217, .int .i64 t218, .int .i64 t219, .int .i64 t220, .string t221, .slice Ao32 t222.length co32] 31 (0, 0)) (zB BK227.out) hb); have n7_ := Aside0.mk (Kd.C_below (by repeat (first | (with_reducible exact HR228_9.out) | (with_reducible refine Kd.C_alloc ?_ _) | (with_reducible refine Kd.C_drewN ?_ _) | (with_reducible refine Kd.C_drew ?_) | exact HR228_9.out)) hb); have n8_ := Aside0.mk (below_step (by repeat first | with_reducible exact HB.out | apply zS | refine below_set ?_ GE197.out | refine below_set ?_ GE212.out | refine below_set ?_ GE227.out | exact HB.out) hb); clear HO194; clear HO209; clear HO224; clear HL228_9; clear BK197; clear BK212; clear BK227; clear HR228_9; clear HB; have HO194 := n0_; have HO209 := n1_; have HO224 := n2_; have HL228_9 := n3_; have BK197 := n4_; have BK212 := n5_; have BK227 := n6_; have HR228_9 := n7_; have HB := n8_; clear n0_ n1_ n2_ n3_ n4_ n5_ n6_ n7_ n8_; (try clear hb); (try clear hb2); (try clear hk); (try clear hi); obtain ⟨hcz37_0, hcz37_1, hcz37_2, hcz37_3, hcz37_4, hcz37_5, hcz37_6, hcz37_7, hcz37_8, hcz37_9, hfz37_0, hfz37_1, hfz37_2, hfz37_3, hfz37_4, hfz37_5, hfz37_6, hfz37_7, hfz37_8, hfz37_9⟩ := zC10 BK197.out) | (go_at_call 18; (with_reducible refine (tree_Depth.calls k t183 t184 t185 t186 t187 t188 t189 t190 t191 _ _ t192 t230 _ ?side1 ?side2 A17.out).mono ?_); (case side1 => repeat (first | exact (Kd.V_reads' HO194.out).2.2 | (with_reducible refine Kd.C_alloc ?_ _) | (with_reducible refine Kd.C_drewN ?_ _) | (with_reducible refine Kd.C_drew ?_))); (case side2 => exact (Kd.V_reads' HO194.out).2.1); rintro e w38 ⟨rfl, hb⟩; have n0_ := Aside0.mk (Kd.V_below (by (with_reducible repeat (first | apply Kd.V_alloc | apply Kd.V_drewN | apply Kd.V_drew)); exact HO194.out) hb); have n1_ := Aside0.mk (Kd.V_below (by (with_reducible repeat (first | apply Kd.V_alloc | apply Kd.V_drewN | apply Kd.V_drew)); exact HO209.out) hb); have n2_ := Aside0.mk (Kd.V_below (by (with_reducible repeat (first | apply Kd.V_alloc | apply Kd.V_drewN | apply Kd.V_drew)); exact HO224.out) hb); have n3_ := Aside0.mk (Kd.V_below (by (with_reducible repeat (first | apply Kd.V_alloc | apply Kd.V_drewN | apply Kd.V_drew)); exact HL228_9.out) hb); have n4_ := Aside0.mk (blk_below (g := gb197) (o := .cells #[.int .i64 t183, .int .i64 t184, .int .i64 t185, .string t186, .int .i64 t187, .int .i64 t188, .int .i64 t189, .int .i64 t190, .string t191, .slice (some ad228) t192.length co21] 31 (0, 0)) (zB BK197.out) hb); have n5_ := Aside0.mk (blk_below (g := gb212) (o := .cells #[.int .i64 t198, .int .i64 t199, .int .i64 t200, .string t201, .int .i64 t202, .int .i64 t203, .int .i64 t204, .int .i64 t205, .string t206, .slice Ao26 t207.length co26] 31 (0, 0)) (zB BK212.out) hb); have n6_ := Aside0.mk (blk_below (g := gb227) (o := .cells #[.int .i64 t213, .int .i64 t214, .int .i64 t215, .string t216, .int .i64 t217, .int .i64 t218, .int .i64 t219, .int .i64 t220, .string t221, .slice Ao32 t222.length co32] 31 (0, 0)) (zB BK227.out) hb); have n7_ := Aside0.mk (Kd.C_below (by repeat (first | (with_reducible exact HR228_9.out) | (with_reducible refine Kd.C_alloc ?_ _) | (with_reducible refine Kd.C_drewN ?_ _) | (with_reducible refine Kd.C_drew ?_) | exact HR228_9.out)) hb); have n8_ := Aside0.mk (below_step (by repeat first | with_reducible exact HB.out | apply zS | refine below_set ?_ GE197.out | refine below_set ?_ GE212.out | refine below_set ?_ GE227.out | exact HB.out) hb); clear HO194; clear HO209; clear HO224; clear HL228_9; clear BK197; clear BK212; clear BK227; clear HR228_9; clear HB; have HO194 := n0_; have HO209 := n1_; have HO224 := n2_; have HL228_9 := n3_; have BK197 := n4_; have BK212 := n5_; have BK227 := n6_; have HR228_9 := n7_; have HB := n8_; clear n0_ n1_ n2_ n3_ n4_ n5_ n6_ n7_ n8_; (try clear hb); (try clear hb2); (try clear hk); (try clear hi)))
                          go_ret
                          exact ⟨by first | rfl | (simp [errW_none, errW_some] <;> rfl) | (simp [*, errW_none, errW_some] <;> rfl), by repeat first | with_reducible exact HB.out | apply zS | refine below_set ?_ GE197.out | refine below_set ?_ GE212.out | refine below_set ?_ GE227.out | exact HB.out⟩
                        · replace c16 := Bool.eq_false_iff.mpr c16
                          subst c16
                          have H1 : (none) = some r := by rw [if_neg (show ¬ (false = true) by decide)] at H; exact H
                          clear H
                          have H := H1
                          clear H1
                          exact absurd H (by simp)
                      · rw [if_neg c14] at H
                        exact absurd H (by simp)
                    · rw [if_neg c13] at H
                      exact absurd H (by simp)
                  · rw [if_neg c12] at H
                    exact absurd H (by simp)
                · rw [if_neg c11] at H
                  exact absurd H (by simp)
              · rw [if_neg c10] at H
                exact absurd H (by simp)
            · rw [if_neg c9] at H
              exact absurd H (by simp)
          · rw [if_neg c8] at H
            exact absurd H (by simp)
        · rw [if_neg c7] at H
          exact absurd H (by simp)
      · rw [if_neg c6] at H
        exact absurd H (by simp)
    · rw [if_neg c5] at H
      exact absurd H (by simp)
  · rw [if_neg c4] at H
    exact absurd H (by simp)
end Go.Proofs.YtpcnaoipenclnaaGreatDoor.P

namespace Go.Proofs.YtpcnaoipenclnaaGreatDoor.P
open Go.RowKit Go.Proofs.YtpcnaoipenclnaaGreatDoorW.PrintWords Go.Proofs.YtpcnaoipenclnaaGreatDoorW.PrintLast Go.Proofs.YtpcnaoipenclnaaGreatDoorW.PrintMore
open M (I64)
set_option linter.unusedVariables false
set_option linter.unusedSimpArgs false
abbrev lfS : List ByteArray := [⟨#[61]⟩, ⟨#[60, 62]⟩, ⟨#[60]⟩, ⟨#[60, 61]⟩, ⟨#[62]⟩, ⟨#[62, 61]⟩, ⟨#[43]⟩, ⟨#[45]⟩, ⟨#[38]⟩, ⟨#[42]⟩, ⟨#[47]⟩, ⟨#[37]⟩, ⟨#[94]⟩]
abbrev lfR : List Int := [1, 1, 1, 1, 1, 1, 2, 2, 2, 3, 3, 3, 4]
abbrev lfSO : Obj := .cells (lfS.map Value.string).toArray 9 (0, 0)
abbrev lfRO : Obj := .cells (lfR.map (Value.int .i64)).toArray 3 (0, 0)
def lfD (n : Int) : ByteArray := strOfNums [(48 + Int.tmod n 10) % 256]
abbrev lfNO (n0 n1 n2 : Int) : Obj := .cells #[.int .u8 n0, .int .u8 n1, .int .u8 n2] 40 (0, 0)
abbrev lfDO (a b c : ByteArray) : Obj := .cells #[.string a, .string b, .string c] 43 (0, 0)
abbrev S5 (X : World) (p0 p1 p2 p3 p4 : Addr) (v0 v1 v2 v3 v4 : Value) : Prop := X.cell? p0 = some v0 ∧ X.cell? p1 = some v1 ∧ X.cell? p2 = some v2 ∧ X.cell? p3 = some v3 ∧ X.cell? p4 = some v4
theorem s5_step {X Y : World} {p0 p1 p2 p3 p4 : Addr} {v0 v1 v2 v3 v4 : Value} (h : S5 X p0 p1 p2 p3 p4 v0 v1 v2 v3 v4) (hs : ∀ p : Addr, p.block < X.heap.size → Y.cell? p = X.cell? p) : S5 Y p0 p1 p2 p3 p4 v0 v1 v2 v3 v4 :=
  have one : ∀ (p : Addr) (v : Value), X.cell? p = some v → Y.cell? p = some v := fun p v h => (hs p (World.block_lt_of_cell? _ _ h)).trans h
  ⟨one _ _ h.1, one _ _ h.2.1, one _ _ h.2.2.1, one _ _ h.2.2.2.1, one _ _ h.2.2.2.2⟩
theorem s5_below {X Y : World} {p0 p1 p2 p3 p4 : Addr} {v0 v1 v2 v3 v4 : Value} (hb : Below X.heap.size X Y) (h : S5 X p0 p1 p2 p3 p4 v0 v1 v2 v3 v4) : S5 Y p0 p1 p2 p3 p4 v0 v1 v2 v3 v4 := s5_step h fun p hp => Below.cell hb hp
theorem s5_alloc {X : World} {p0 p1 p2 p3 p4 : Addr} {v0 v1 v2 v3 v4 : Value} (o : Obj) (h : S5 X p0 p1 p2 p3 p4 v0 v1 v2 v3 v4) : S5 (X.alloc o) p0 p1 p2 p3 p4 v0 v1 v2 v3 v4 := s5_below (below_alloc (Below.refl _ _) o) h
theorem s5_drew {X : World} {p0 p1 p2 p3 p4 : Addr} {v0 v1 v2 v3 v4 : Value} (h : S5 X p0 p1 p2 p3 p4 v0 v1 v2 v3 v4) : S5 X.drew p0 p1 p2 p3 p4 v0 v1 v2 v3 v4 := h
theorem s5_put {X : World} {q j : Nat} {p0 p1 p2 p3 p4 : Addr} {v0 v1 v2 v3 v4 : Value} (h : S5 X p0 p1 p2 p3 p4 v0 v1 v2 v3 v4) (u : Value) (hq : p0.block ≠ q ∧ p1.block ≠ q ∧ p2.block ≠ q ∧ p3.block ≠ q ∧ p4.block ≠ q) : S5 (X.setCell ⟨q, j, none⟩ u) p0 p1 p2 p3 p4 v0 v1 v2 v3 v4 :=
  have one : ∀ (p : Addr) (v : Value), p.block ≠ q → X.cell? p = some v → (X.setCell ⟨q, j, none⟩ u).cell? p = some v := fun p v hp h => (World.cell?_of_block (Below.heap_setCell X ⟨q, j, none⟩ u p.block hp)).trans h
  ⟨one _ _ hq.1 h.1, one _ _ hq.2.1 h.2.1, one _ _ hq.2.2.1 h.2.2.1, one _ _ hq.2.2.2.1 h.2.2.2.1, one _ _ hq.2.2.2.2 h.2.2.2.2⟩
theorem s5_put10 {X : World} {q : Nat} {p0 p1 p2 p3 p4 : Addr} {v0 v1 v2 v3 v4 u0 u1 u2 u3 u4 u5 u6 u7 u8 u9 : Value} (h : S5 X p0 p1 p2 p3 p4 v0 v1 v2 v3 v4) (hq : p0.block ≠ q ∧ p1.block ≠ q ∧ p2.block ≠ q ∧ p3.block ≠ q ∧ p4.block ≠ q) : S5 (put10 X q u0 u1 u2 u3 u4 u5 u6 u7 u8 u9) p0 p1 p2 p3 p4 v0 v1 v2 v3 v4 :=
  s5_put (s5_put (s5_put (s5_put (s5_put (s5_put (s5_put (s5_put (s5_put (s5_put h u0 hq) u1 hq) u2 hq) u3 hq) u4 hq) u5 hq) u6 hq) u7 hq) u8 hq) u9 hq
abbrev S6 (X : World) (p0 p1 p2 p3 p4 p5 : Addr) (v0 v1 v2 v3 v4 v5 : Value) : Prop := X.cell? p0 = some v0 ∧ X.cell? p1 = some v1 ∧ X.cell? p2 = some v2 ∧ X.cell? p3 = some v3 ∧ X.cell? p4 = some v4 ∧ X.cell? p5 = some v5
theorem s6_below {X Y : World} {p0 p1 p2 p3 p4 p5 : Addr} {v0 v1 v2 v3 v4 v5 : Value} (hb : Below X.heap.size X Y) (h : S6 X p0 p1 p2 p3 p4 p5 v0 v1 v2 v3 v4 v5) : S6 Y p0 p1 p2 p3 p4 p5 v0 v1 v2 v3 v4 v5 :=
  have one : ∀ (p : Addr) (v : Value), X.cell? p = some v → Y.cell? p = some v := fun p v h => (Below.cell hb (World.block_lt_of_cell? _ _ h)).trans h
  ⟨one _ _ h.1, one _ _ h.2.1, one _ _ h.2.2.1, one _ _ h.2.2.2.1, one _ _ h.2.2.2.2.1, one _ _ h.2.2.2.2.2⟩
theorem s6_drewN {X : World} {p0 p1 p2 p3 p4 p5 : Addr} {v0 v1 v2 v3 v4 v5 : Value} (m : Nat) (h : S6 X p0 p1 p2 p3 p4 p5 v0 v1 v2 v3 v4 v5) : S6 (X.drewN m) p0 p1 p2 p3 p4 p5 v0 v1 v2 v3 v4 v5 := h
theorem s6_drew {X : World} {p0 p1 p2 p3 p4 p5 : Addr} {v0 v1 v2 v3 v4 v5 : Value} (h : S6 X p0 p1 p2 p3 p4 p5 v0 v1 v2 v3 v4 v5) : S6 X.drew p0 p1 p2 p3 p4 p5 v0 v1 v2 v3 v4 v5 := h
def LfS (n0 n1 n2 : Int) (w : World) (i : Value) (wr : World) : Prop :=
  wr.heap[w.heap.size + 1]? = some (lfNO n0 n1 n2) ∧ wr.heap[w.heap.size + 1 + 1]? = some lfSO ∧ wr.heap[w.heap.size + 1 + 1 + 1]? = some lfRO ∧ Below w.heap.size w wr ∧
  ((i = .int .i64 0 ∧ wr.heap[w.heap.size + 1 + 1 + 1 + 1]? = some (lfDO ⟨#[49]⟩ ⟨#[50]⟩ ⟨#[51]⟩)) ∨ (i = .int .i64 1 ∧ wr.heap[w.heap.size + 1 + 1 + 1 + 1]? = some (lfDO (lfD n0) ⟨#[50]⟩ ⟨#[51]⟩)) ∨
    (i = .int .i64 2 ∧ wr.heap[w.heap.size + 1 + 1 + 1 + 1]? = some (lfDO (lfD n0) (lfD n1) ⟨#[51]⟩)) ∨ (i = .int .i64 3 ∧ wr.heap[w.heap.size + 1 + 1 + 1 + 1]? = some (lfDO (lfD n0) (lfD n1) (lfD n2))))
theorem lf_at (W : World) (o : Obj) (n : Nat) (h : n = W.heap.size) : (W.alloc o).heap[n]? = some o := by subst h; exact blk_new W o
theorem left_wakes : pannierlaw05_wakes.f 1000 = some true := by decide +kernel
theorem lf_conv (wr : World) (v : Int) : (convert 44 9 (.slice (some ⟨wr.heap.size, 0, none⟩) 1 1)).run Tryz.prog (wr.alloc (.cells #[.int .u8 v] 5)) = .ok (.string (strOfNums [v])) (wr.alloc (.cells #[.int .u8 v] 5)) := by
  refine run_convert_bytes_arg _ _ 5 Tryz.underlying44 Tryz.underlying5 _ 0 1 1 [v] rfl (fun i hi => ?_) _ Tryz.underlying9
  obtain rfl : i = 0 := by omega
  exact (blk_cell (blk_new wr _) 0).trans rfl
set_option maxHeartbeats 16000000 in
set_option maxRecDepth 100000 in
theorem left_walk_A (k0 k1 n0 n1 n2 : Int) (w : World) (hG : G4 w) (b0 : 0 ≤ k0 ∧ k0 ≤ 255) (b1 : 0 ≤ k1 ∧ k1 ≤ 255) (x y : Nat) (hx : Int.tmod k0 13 = (x : Int)) (hy : Int.tmod k1 13 = (y : Int)) (hxl : x < 13) (hyl : y < 13) (sx sy : ByteArray) (rx ry : Int) (hsx : lfS[x]? = some sx) (hsy : lfS[y]? = some sy) (hrx : lfR[x]? = some rx) (hry : lfR[y]? = some ry) (hz0 : (lfD n0).size = 1) (hz1 : (lfD n1).size = 1) (hz2 : (lfD n2).size = 1) (hzx : sx.size ≤ 2) (hzy : sy.size ≤ 2) (K : Nat) (r1 r2 r3 : Int) (r4 : ByteArray) (r5 r6 r7 r8 : Int) (r9 : ByteArray) (r10 : List TN) (r11 r12 : Int) (hp : tree_Parse.f K ((((lfD n0 ++ sx) ++ lfD n1) ++ sy) ++ lfD n2) = some (r1, r2, r3, r4, r5, r6, r7, r8, r9, r10, r11, r12))
    (hcase : rx = 1 ∧ ry = 1 ∧ r12 = 13) :
    Calls Tryz.prog 4 #[.agg #[.int .u8 k0, .int .u8 k1], .agg #[.int .u8 n0, .int .u8 n1, .int .u8 n2]] w fun e w' => e = .returned (.bool true) ∧ Below w.heap.size w w' := by
  have hu31 := Tryz.underlying31
  have hu39 := Tryz.underlying39
  have hu40 := Tryz.underlying40
  have hu43 := Tryz.underlying43
  have HG := Lib.hid hG
  have HP := Lib.hid hp
  have HC := Lib.hid hcase
  have HW := Lib.hid left_wakes
  have hw0 : IntKind.i64.wrap k0 = k0 := by rw [i64_w, M.wrap64_id (by unfold I64; omega)]
  have hw1 : IntKind.i64.wrap k1 = k1 := by rw [i64_w, M.wrap64_id (by unfold I64; omega)]
  clear hG hp hcase
  go_enter Tryz.func4, Tryz.ntmps4
  go_wp2_with fail
  go_region_held3 (fun w' => w'.cell? ⟨w.heap.size, 0, none⟩ = some (.int .u8 k0) ∧ w'.cell? ⟨w.heap.size, 1, none⟩ = some (.int .u8 k1)) (go_keep) (fail)
  all_goals go_wp2_with fail
  go_loopw [10] (LfS n0 n1 n2 w) (fun i _ => 3 - (intOf i).toNat)
  case atStart =>
    refine ⟨?_, ?_, ?_, ?_, Or.inl ⟨rfl, ?_⟩⟩
    · exact blk_drew (blk_alloc (blk_alloc (blk_alloc (lf_at _ _ _ (by simp)) _) _) _)
    · exact blk_drew (blk_alloc (blk_alloc (lf_at _ _ _ (by simp)) _) _)
    · exact blk_drew (blk_alloc (lf_at _ _ _ (by simp)) _)
    · exact (((((Below.refl _ _).alloc (Nat.le_refl _) _).alloc (by simp) _).alloc (by simp; omega) _).alloc (by simp; omega) _).alloc (by simp; omega) _ |>.drew
    · exact blk_drew (lf_at _ _ _ (by simp))
  case round =>
    obtain ⟨hn, hs, hr, hb, hrel⟩ := hrel
    have HNb := Lib.hid hn
    have HSb := Lib.hid hs
    have HRb := Lib.hid hr
    have HBb := Lib.hid hb
    clear hn hs hr hb
    rcases hrel with ⟨rfl, hd⟩ | ⟨rfl, hd⟩ | ⟨rfl, hd⟩ | ⟨rfl, hd⟩
    · have c0_ : wr.cell? ⟨w.heap.size + 1, 0, none⟩ = some (.int .u8 n0) := (blk_cell HNb.out 0).trans rfl
      have q0_ : wr.cell? ⟨w.heap.size + 1 + 1 + 1 + 1, 0, none⟩ = some (.string ⟨#[49]⟩) := (blk_cell hd 0).trans rfl
      have z0_ := blk_frozen hd 0
      have HDb := Lib.hid hd
      have hcv := lf_conv wr ((48 + Int.tmod n0 10) % 256)
      have hlb := blk_lt hd
      have hlb1 : (w.heap.size + 1 + 1 + 1 + 1 = wr.heap.size) = False := eq_false (by omega)
      have hlb2 : (wr.heap.size = w.heap.size + 1 + 1 + 1 + 1) = False := eq_false (by omega)
      clear hd
      go_wp2_with fail
      refine ⟨⟨blk_alloc (blk_far HNb.out (by simp) _) _, blk_alloc (blk_far HSb.out (by simp) _) _, blk_alloc (blk_far HRb.out (by simp) _) _, below_alloc (below_set HBb.out (by omega)) _, Or.inr (Or.inl ⟨rfl, blk_alloc (blk_put HDb.out 0 _ rfl) _⟩)⟩, by simp [intOf]⟩
    · have c0_ : wr.cell? ⟨w.heap.size + 1, 1, none⟩ = some (.int .u8 n1) := (blk_cell HNb.out 1).trans rfl
      have q0_ : wr.cell? ⟨w.heap.size + 1 + 1 + 1 + 1, 1, none⟩ = some (.string ⟨#[50]⟩) := (blk_cell hd 1).trans rfl
      have z0_ := blk_frozen hd 1
      have HDb := Lib.hid hd
      have hcv := lf_conv wr ((48 + Int.tmod n1 10) % 256)
      have hlb := blk_lt hd
      have hlb1 : (w.heap.size + 1 + 1 + 1 + 1 = wr.heap.size) = False := eq_false (by omega)
      have hlb2 : (wr.heap.size = w.heap.size + 1 + 1 + 1 + 1) = False := eq_false (by omega)
      clear hd
      go_wp2_with fail
      refine ⟨⟨blk_alloc (blk_far HNb.out (by simp) _) _, blk_alloc (blk_far HSb.out (by simp) _) _, blk_alloc (blk_far HRb.out (by simp) _) _, below_alloc (below_set HBb.out (by omega)) _, Or.inr (Or.inr (Or.inl ⟨rfl, blk_alloc (blk_put HDb.out 1 _ rfl) _⟩))⟩, by simp [intOf]⟩
    · have c0_ : wr.cell? ⟨w.heap.size + 1, 2, none⟩ = some (.int .u8 n2) := (blk_cell HNb.out 2).trans rfl
      have q0_ : wr.cell? ⟨w.heap.size + 1 + 1 + 1 + 1, 2, none⟩ = some (.string ⟨#[51]⟩) := (blk_cell hd 2).trans rfl
      have z0_ := blk_frozen hd 2
      have HDb := Lib.hid hd
      have hcv := lf_conv wr ((48 + Int.tmod n2 10) % 256)
      have hlb := blk_lt hd
      have hlb1 : (w.heap.size + 1 + 1 + 1 + 1 = wr.heap.size) = False := eq_false (by omega)
      have hlb2 : (wr.heap.size = w.heap.size + 1 + 1 + 1 + 1) = False := eq_false (by omega)
      clear hd
      go_wp2_with fail
      refine ⟨⟨blk_alloc (blk_far HNb.out (by simp) _) _, blk_alloc (blk_far HSb.out (by simp) _) _, blk_alloc (blk_far HRb.out (by simp) _) _, below_alloc (below_set HBb.out (by omega)) _, Or.inr (Or.inr (Or.inr ⟨rfl, blk_alloc (blk_put HDb.out 2 _ rfl) _⟩))⟩, by simp [intOf]⟩
    · have hq1 : ((0 : Int) ≤ (x : Int)) = True := eq_true (by omega)
      have hq2 : ((x : Int) < 13) = True := eq_true (by omega)
      have hq3 : ((0 : Int) ≤ (y : Int)) = True := eq_true (by omega)
      have hq4 : ((y : Int) < 13) = True := eq_true (by omega)
      have d0_ : wr.cell? ⟨w.heap.size + 1 + 1 + 1 + 1, 0, none⟩ = some (.string (lfD n0)) := (blk_cell hd 0).trans rfl
      have d1_ : wr.cell? ⟨w.heap.size + 1 + 1 + 1 + 1, 1, none⟩ = some (.string (lfD n1)) := (blk_cell hd 1).trans rfl
      have d2_ : wr.cell? ⟨w.heap.size + 1 + 1 + 1 + 1, 2, none⟩ = some (.string (lfD n2)) := (blk_cell hd 2).trans rfl
      have sx_ : wr.cell? ⟨w.heap.size + 1 + 1, x, none⟩ = some (.string sx) := (blk_cell HSb.out x).trans (by show ((lfS.map Value.string).toArray)[x]? = _; rw [List.getElem?_toArray, List.getElem?_map, hsx]; rfl)
      have sy_ : wr.cell? ⟨w.heap.size + 1 + 1, y, none⟩ = some (.string sy) := (blk_cell HSb.out y).trans (by show ((lfS.map Value.string).toArray)[y]? = _; rw [List.getElem?_toArray, List.getElem?_map, hsy]; rfl)
      have rx_ : wr.cell? ⟨w.heap.size + 1 + 1 + 1, x, none⟩ = some (.int .i64 rx) := (blk_cell HRb.out x).trans (by show ((lfR.map (Value.int .i64)).toArray)[x]? = _; rw [List.getElem?_toArray, List.getElem?_map, hrx]; rfl)
      have ry_ : wr.cell? ⟨w.heap.size + 1 + 1 + 1, y, none⟩ = some (.int .i64 ry) := (blk_cell HRb.out y).trans (by show ((lfR.map (Value.int .i64)).toArray)[y]? = _; rw [List.getElem?_toArray, List.getElem?_map, hry]; rfl)
      have hlb := blk_lt hd
      have f1a : (9223372036854775807 < (lfD n0).size + sx.size) = False := eq_false (by omega)
      have f1b : ((lfD n0).size + sx.size ≤ 9223372036854775807) = True := eq_true (by omega)
      have f1c : decide ((lfD n0).size + sx.size ≤ 9223372036854775807) = true := decide_eq_true (by omega)
      have f2a : (9223372036854775807 < (lfD n0).size + sx.size + (lfD n1).size) = False := eq_false (by omega)
      have f2b : ((lfD n0).size + sx.size + (lfD n1).size ≤ 9223372036854775807) = True := eq_true (by omega)
      have f2c : decide ((lfD n0).size + sx.size + (lfD n1).size ≤ 9223372036854775807) = true := decide_eq_true (by omega)
      have f2d : (9223372036854775807 < ((lfD n0 ++ sx)).size + (lfD n1).size) = False := by simpa only [ByteArray.size_append] using f2a
      have f2e : (((lfD n0 ++ sx)).size + (lfD n1).size ≤ 9223372036854775807) = True := by simpa only [ByteArray.size_append] using f2b
      have f3a : (9223372036854775807 < (lfD n0).size + sx.size + (lfD n1).size + sy.size) = False := eq_false (by omega)
      have f3b : ((lfD n0).size + sx.size + (lfD n1).size + sy.size ≤ 9223372036854775807) = True := eq_true (by omega)
      have f3c : decide ((lfD n0).size + sx.size + (lfD n1).size + sy.size ≤ 9223372036854775807) = true := decide_eq_true (by omega)
      have f3d : (9223372036854775807 < (((lfD n0 ++ sx) ++ lfD n1)).size + sy.size) = False := by simpa only [ByteArray.size_append] using f3a
      have f3e : ((((lfD n0 ++ sx) ++ lfD n1)).size + sy.size ≤ 9223372036854775807) = True := by simpa only [ByteArray.size_append] using f3b
      have f4a : (9223372036854775807 < (lfD n0).size + sx.size + (lfD n1).size + sy.size + (lfD n2).size) = False := eq_false (by omega)
      have f4b : ((lfD n0).size + sx.size + (lfD n1).size + sy.size + (lfD n2).size ≤ 9223372036854775807) = True := eq_true (by omega)
      have f4c : decide ((lfD n0).size + sx.size + (lfD n1).size + sy.size + (lfD n2).size ≤ 9223372036854775807) = true := decide_eq_true (by omega)
      have f4d : (9223372036854775807 < ((((lfD n0 ++ sx) ++ lfD n1) ++ sy)).size + (lfD n2).size) = False := by simpa only [ByteArray.size_append] using f4a
      have f4e : (((((lfD n0 ++ sx) ++ lfD n1) ++ sy)).size + (lfD n2).size ≤ 9223372036854775807) = True := by simpa only [ByteArray.size_append] using f4b
      have KK := Lib.hid (show S5 wr _ _ _ _ _ _ _ _ _ _ from ⟨d0_, d1_, d2_, sx_, sy_⟩)
      have HNA : Hid (w.heap.size + 1 + 1 + 1 + 1 ≠ wr.heap.size ∧ w.heap.size + 1 + 1 + 1 + 1 ≠ wr.heap.size ∧ w.heap.size + 1 + 1 + 1 + 1 ≠ wr.heap.size ∧ w.heap.size + 1 + 1 ≠ wr.heap.size ∧ w.heap.size + 1 + 1 ≠ wr.heap.size) := Lib.hid ⟨by omega, by omega, by omega, by omega, by omega⟩
      have HDb := Lib.hid hd
      clear hd hz0 hz1 hz2 hzx hzy
      go_wp2_with fail
      go_region_held3 (fun w' => w'.cell? ⟨w.heap.size + 1 + 1 + 1 + 1, 0, none⟩ = some (.string (lfD n0)) ∧ w'.cell? ⟨w.heap.size + 1 + 1 + 1 + 1, 1, none⟩ = some (.string (lfD n1)) ∧ w'.cell? ⟨w.heap.size + 1 + 1 + 1 + 1, 2, none⟩ = some (.string (lfD n2)) ∧ w'.cell? ⟨w.heap.size + 1 + 1, x, none⟩ = some (.string sx) ∧ w'.cell? ⟨w.heap.size + 1 + 1, y, none⟩ = some (.string sy)) (with_reducible first | (refine s5_put10 ?s5 ?q5; (case q5 => (first | exact HNA.out | exact HNB.out)); (case s5 => repeat (first | exact KK.out | refine s5_alloc _ ?_ | refine s5_drewN _ ?_ | refine s5_drew ?_ | refine s5_below hbl ?_))) | (repeat (first | exact KK.out | refine s5_alloc _ ?_ | refine s5_drewN _ ?_ | refine s5_drew ?_ | refine s5_below hbl ?_))) (first | (go_at_call 14; (with_reducible refine (tree_Parse.calls K _ r1 r2 r3 r4 r5 r6 r7 r8 r9 r10 r11 r12 _ ?sg HP.out).mono ?_); (case sg => exact gl_4_4 (by with_reducible repeat (first | exact HBb.out | refine below_alloc ?_ _ | refine pw_below_drewN ?_ _ | refine Below.drew ?_)) HG.out); rintro e w' ⟨v9, rfl, hV, hbl⟩; obtain ⟨A9, c9, rfl⟩ := Kd.V_slice hV; have hs1 : w.heap.size + 1 + 1 + 1 + 1 < w'.heap.size := (by have h := hbl.size; simp at h; omega); have HNB : Hid (w.heap.size + 1 + 1 + 1 + 1 ≠ w'.heap.size ∧ w.heap.size + 1 + 1 + 1 + 1 ≠ w'.heap.size ∧ w.heap.size + 1 + 1 + 1 + 1 ≠ w'.heap.size ∧ w.heap.size + 1 + 1 ≠ w'.heap.size ∧ w.heap.size + 1 + 1 ≠ w'.heap.size) := Lib.hid ⟨by omega, by omega, by omega, by omega, by omega⟩; (first | (with_reducible have nb : w'.heap[wr.heap.size]? = some nd0 := blk_below (blk_drew (blk_new wr nd0)) hbl); obtain ⟨⟨e0, e1, e2, e3, e4, e5, e6, e7, e8, e9⟩, y0, y1, y2, y3, y4, y5, y6, y7, y8, y9⟩ := z10 nb; have hs2 : wr.heap.size < w'.heap.size := blk_lt nb | (with_reducible have nb : w'.heap[wr.heap.size]? = some nd0 := blk_below (blk_new wr.drew nd0) hbl); obtain ⟨⟨e0, e1, e2, e3, e4, e5, e6, e7, e8, e9⟩, y0, y1, y2, y3, y4, y5, y6, y7, y8, y9⟩ := z10 nb; have hs2 : wr.heap.size < w'.heap.size := blk_lt nb | skip)))
      all_goals clear d0_ d1_ d2_ sx_ sy_ rx_ ry_ KK HNb HDb f1a f1b f1c f2a f2b f2c f2d f2e f3a f3b f3c f3d f3e f4a f4b f4c f4d f4e hw0 hw1
      have HE : Hid (Below w.heap.size w (w'.alloc (.cells #[.int .i64 r1, .int .i64 r2, .int .i64 r3, .string r4, .int .i64 r5, .int .i64 r6, .int .i64 r7, .int .i64 r8, .string r9, .slice A9 r10.length c9] 31 (0, 0)))) := Lib.hid (below_alloc (below_step HBb.out.drew hbl) _)
      have HS2 : Hid ((World.heap (w'.alloc (.cells #[.int .i64 r1, .int .i64 r2, .int .i64 r3, .string r4, .int .i64 r5, .int .i64 r6, .int .i64 r7, .int .i64 r8, .string r9, .slice A9 r10.length c9] 31 (0, 0))))[w.heap.size + 1 + 1]? = some lfSO) := Lib.hid (blk_alloc (blk_below (blk_drew HSb.out) hbl) _)
      have HR2 : Hid ((World.heap (w'.alloc (.cells #[.int .i64 r1, .int .i64 r2, .int .i64 r3, .string r4, .int .i64 r5, .int .i64 r6, .int .i64 r7, .int .i64 r8, .string r9, .slice A9 r10.length c9] 31 (0, 0))))[w.heap.size + 1 + 1 + 1]? = some lfRO) := Lib.hid (blk_alloc (blk_below (blk_drew HRb.out) hbl) _)
      have HX : Hid ((World.heap (w'.alloc (.cells #[.int .i64 r1, .int .i64 r2, .int .i64 r3, .string r4, .int .i64 r5, .int .i64 r6, .int .i64 r7, .int .i64 r8, .string r9, .slice A9 r10.length c9] 31 (0, 0))))[w'.heap.size]? = some (.cells #[.int .i64 r1, .int .i64 r2, .int .i64 r3, .string r4, .int .i64 r5, .int .i64 r6, .int .i64 r7, .int .i64 r8, .string r9, .slice A9 r10.length c9] 31 (0, 0))) := Lib.hid (blk_new w' _)
      have HV2 : Hid (vN (fun _ => True) (w'.alloc (.cells #[.int .i64 r1, .int .i64 r2, .int .i64 r3, .string r4, .int .i64 r5, .int .i64 r6, .int .i64 r7, .int .i64 r8, .string r9, .slice A9 r10.length c9] 31 (0, 0))) (.slice A9 r10.length c9) r10) := Lib.hid (Kd.V_alloc (Kd.V_mono (Kd.V_lower hV (Nat.zero_le _)) (fun _ _ => trivial)) _)
      generalize (w'.alloc (.cells #[.int .i64 r1, .int .i64 r2, .int .i64 r3, .string r4, .int .i64 r5, .int .i64 r6, .int .i64 r7, .int .i64 r8, .string r9, .slice A9 r10.length c9] 31 (0, 0))) = v at HE HS2 HR2 HX HV2 ⊢
      clear hV hbl HNB hs1 HNA hlb
      generalize w'.heap.size = q at HX ⊢
      rename_i hh_
      clear hh_
      rotate_left
      have HE : Hid (Below w.heap.size w (World.setCell (World.setCell (World.setCell (World.setCell (World.setCell (World.setCell (World.setCell (World.setCell (World.setCell (World.setCell w' ⟨wr.heap.size, 0, none⟩ (.int .i64 r1)) ⟨wr.heap.size, 1, none⟩ (.int .i64 r2)) ⟨wr.heap.size, 2, none⟩ (.int .i64 r3)) ⟨wr.heap.size, 3, none⟩ (.string r4)) ⟨wr.heap.size, 4, none⟩ (.int .i64 r5)) ⟨wr.heap.size, 5, none⟩ (.int .i64 r6)) ⟨wr.heap.size, 6, none⟩ (.int .i64 r7)) ⟨wr.heap.size, 7, none⟩ (.int .i64 r8)) ⟨wr.heap.size, 8, none⟩ (.string r9)) ⟨wr.heap.size, 9, none⟩ (.slice A9 r10.length c9))) := Lib.hid (put10_below (below_step (below_alloc HBb.out nd0).drew hbl) (HBb.out.size) _ _ _ _ _ _ _ _ _ _)
      have HS2 : Hid ((World.heap (World.setCell (World.setCell (World.setCell (World.setCell (World.setCell (World.setCell (World.setCell (World.setCell (World.setCell (World.setCell w' ⟨wr.heap.size, 0, none⟩ (.int .i64 r1)) ⟨wr.heap.size, 1, none⟩ (.int .i64 r2)) ⟨wr.heap.size, 2, none⟩ (.int .i64 r3)) ⟨wr.heap.size, 3, none⟩ (.string r4)) ⟨wr.heap.size, 4, none⟩ (.int .i64 r5)) ⟨wr.heap.size, 5, none⟩ (.int .i64 r6)) ⟨wr.heap.size, 6, none⟩ (.int .i64 r7)) ⟨wr.heap.size, 7, none⟩ (.int .i64 r8)) ⟨wr.heap.size, 8, none⟩ (.string r9)) ⟨wr.heap.size, 9, none⟩ (.slice A9 r10.length c9)))[w.heap.size + 1 + 1]? = some lfSO) := Lib.hid ((put10_old (by omega) _ _ _ _ _ _ _ _ _ _).trans (blk_below (blk_drew (blk_alloc HSb.out nd0)) hbl))
      have HR2 : Hid ((World.heap (World.setCell (World.setCell (World.setCell (World.setCell (World.setCell (World.setCell (World.setCell (World.setCell (World.setCell (World.setCell w' ⟨wr.heap.size, 0, none⟩ (.int .i64 r1)) ⟨wr.heap.size, 1, none⟩ (.int .i64 r2)) ⟨wr.heap.size, 2, none⟩ (.int .i64 r3)) ⟨wr.heap.size, 3, none⟩ (.string r4)) ⟨wr.heap.size, 4, none⟩ (.int .i64 r5)) ⟨wr.heap.size, 5, none⟩ (.int .i64 r6)) ⟨wr.heap.size, 6, none⟩ (.int .i64 r7)) ⟨wr.heap.size, 7, none⟩ (.int .i64 r8)) ⟨wr.heap.size, 8, none⟩ (.string r9)) ⟨wr.heap.size, 9, none⟩ (.slice A9 r10.length c9)))[w.heap.size + 1 + 1 + 1]? = some lfRO) := Lib.hid ((put10_old (by omega) _ _ _ _ _ _ _ _ _ _).trans (blk_below (blk_drew (blk_alloc HRb.out nd0)) hbl))
      have HX : Hid ((World.heap (World.setCell (World.setCell (World.setCell (World.setCell (World.setCell (World.setCell (World.setCell (World.setCell (World.setCell (World.setCell w' ⟨wr.heap.size, 0, none⟩ (.int .i64 r1)) ⟨wr.heap.size, 1, none⟩ (.int .i64 r2)) ⟨wr.heap.size, 2, none⟩ (.int .i64 r3)) ⟨wr.heap.size, 3, none⟩ (.string r4)) ⟨wr.heap.size, 4, none⟩ (.int .i64 r5)) ⟨wr.heap.size, 5, none⟩ (.int .i64 r6)) ⟨wr.heap.size, 6, none⟩ (.int .i64 r7)) ⟨wr.heap.size, 7, none⟩ (.int .i64 r8)) ⟨wr.heap.size, 8, none⟩ (.string r9)) ⟨wr.heap.size, 9, none⟩ (.slice A9 r10.length c9)))[wr.heap.size]? = some (.cells #[.int .i64 r1, .int .i64 r2, .int .i64 r3, .string r4, .int .i64 r5, .int .i64 r6, .int .i64 r7, .int .i64 r8, .string r9, .slice A9 r10.length c9] 31 (0, 0))) := Lib.hid (put10_blk nb _ _ _ _ _ _ _ _ _ _)
      have HV2 : Hid (vN (fun _ => True) (World.setCell (World.setCell (World.setCell (World.setCell (World.setCell (World.setCell (World.setCell (World.setCell (World.setCell (World.setCell w' ⟨wr.heap.size, 0, none⟩ (.int .i64 r1)) ⟨wr.heap.size, 1, none⟩ (.int .i64 r2)) ⟨wr.heap.size, 2, none⟩ (.int .i64 r3)) ⟨wr.heap.size, 3, none⟩ (.string r4)) ⟨wr.heap.size, 4, none⟩ (.int .i64 r5)) ⟨wr.heap.size, 5, none⟩ (.int .i64 r6)) ⟨wr.heap.size, 6, none⟩ (.int .i64 r7)) ⟨wr.heap.size, 7, none⟩ (.int .i64 r8)) ⟨wr.heap.size, 8, none⟩ (.string r9)) ⟨wr.heap.size, 9, none⟩ (.slice A9 r10.length c9)) (.slice A9 r10.length c9) r10) := Lib.hid (Kd.V_mono (put10_vN (ok := fun k => wr.heap.size < k) (Kd.V_mono (Kd.V_lower hV (Nat.zero_le _)) (fun k hk => by simp at hk; omega)) (fun k hk => Nat.ne_of_gt hk) _ _ _ _ _ _ _ _ _ _) (fun _ _ => trivial))
      generalize (World.setCell (World.setCell (World.setCell (World.setCell (World.setCell (World.setCell (World.setCell (World.setCell (World.setCell (World.setCell w' ⟨wr.heap.size, 0, none⟩ (.int .i64 r1)) ⟨wr.heap.size, 1, none⟩ (.int .i64 r2)) ⟨wr.heap.size, 2, none⟩ (.int .i64 r3)) ⟨wr.heap.size, 3, none⟩ (.string r4)) ⟨wr.heap.size, 4, none⟩ (.int .i64 r5)) ⟨wr.heap.size, 5, none⟩ (.int .i64 r6)) ⟨wr.heap.size, 6, none⟩ (.int .i64 r7)) ⟨wr.heap.size, 7, none⟩ (.int .i64 r8)) ⟨wr.heap.size, 8, none⟩ (.string r9)) ⟨wr.heap.size, 9, none⟩ (.slice A9 r10.length c9)) = v at HE HS2 HR2 HX HV2 ⊢
      clear hV hbl HNB hs1 HNA hlb nb hs2 e0 e1 e2 e3 e4 e5 e6 e7 e8 e9 y0 y1 y2 y3 y4 y5 y6 y7 y8 y9
      generalize wr.heap.size = q at HX ⊢
      rename_i hh_
      clear hh_
      rotate_left
      all_goals have rx_ : v.cell? ⟨w.heap.size + 1 + 1 + 1, x, none⟩ = some (.int .i64 rx) := (blk_cell HR2.out x).trans (by show ((lfR.map (Value.int .i64)).toArray)[x]? = _; rw [List.getElem?_toArray, List.getElem?_map, hrx]; rfl)
      all_goals have ry_ : v.cell? ⟨w.heap.size + 1 + 1 + 1, y, none⟩ = some (.int .i64 ry) := (blk_cell HR2.out y).trans (by show ((lfR.map (Value.int .i64)).toArray)[y]? = _; rw [List.getElem?_toArray, List.getElem?_map, hry]; rfl)
      all_goals have sx_ : v.cell? ⟨w.heap.size + 1 + 1, x, none⟩ = some (.string sx) := (blk_cell HS2.out x).trans (by show ((lfS.map Value.string).toArray)[x]? = _; rw [List.getElem?_toArray, List.getElem?_map, hsx]; rfl)
      all_goals have sy_ : v.cell? ⟨w.heap.size + 1 + 1, y, none⟩ = some (.string sy) := (blk_cell HS2.out y).trans (by show ((lfS.map Value.string).toArray)[y]? = _; rw [List.getElem?_toArray, List.getElem?_map, hsy]; rfl)
      all_goals obtain ⟨⟨c0, c1, c2, c3, c4, c5, c6, c7, c8, c9_⟩, y0, y1, y2, y3, y4, y5, y6, y7, y8, y9⟩ := z10 HX.out
      all_goals clear hsx hsy hrx hry hx hy HSb HRb HBb
      all_goals obtain ⟨rfl, rfl, rfl⟩ := HC.out
      all_goals
        clear HC
        go_wp2_with (first | (go_at_call 13; (with_reducible refine (pannierlaw05_wakes.calls 1000 _ _ ?sg HW.out).mono ?_); (case sg => exact gl_4_4 (by with_reducible repeat (first | exact HE.out | refine Below.drew ?_ | refine pw_below_drewN ?_ _)) HG.out); rintro e w5 ⟨rfl, hb5⟩))
        go_ret
        exact ⟨rfl, below_step (by with_reducible repeat (first | exact HE.out | refine Below.drew ?_ | refine pw_below_drewN ?_ _)) hb5⟩
def pannierlaw05_TreeLeft.f (k : Nat) (l m : List Int) : Option Bool := if l.length = 2 ∧ m.length = 3 ∧ (∀ a ∈ l, 0 ≤ a ∧ a ≤ 255) ∧ (∀ a ∈ m, 0 ≤ a ∧ a ≤ 255) then some true else none
end Go.Proofs.YtpcnaoipenclnaaGreatDoor.P

namespace Go.Proofs.YtpcnaoipenclnaaGreatDoor.P
open Go.RowKit Go.Proofs.YtpcnaoipenclnaaGreatDoorW.PrintWords Go.Proofs.YtpcnaoipenclnaaGreatDoorW.PrintLast Go.Proofs.YtpcnaoipenclnaaGreatDoorW.PrintMore
open M (I64)
set_option linter.unusedVariables false
set_option linter.unusedSimpArgs false
set_option maxHeartbeats 16000000 in
set_option maxRecDepth 100000 in
theorem left_walk_B (k0 k1 n0 n1 n2 : Int) (w : World) (hG : G4 w) (b0 : 0 ≤ k0 ∧ k0 ≤ 255) (b1 : 0 ≤ k1 ∧ k1 ≤ 255) (x y : Nat) (hx : Int.tmod k0 13 = (x : Int)) (hy : Int.tmod k1 13 = (y : Int)) (hxl : x < 13) (hyl : y < 13) (sx sy : ByteArray) (rx ry : Int) (hsx : lfS[x]? = some sx) (hsy : lfS[y]? = some sy) (hrx : lfR[x]? = some rx) (hry : lfR[y]? = some ry) (hz0 : (lfD n0).size = 1) (hz1 : (lfD n1).size = 1) (hz2 : (lfD n2).size = 1) (hzx : sx.size ≤ 2) (hzy : sy.size ≤ 2) (K : Nat) (r1 r2 r3 : Int) (r4 : ByteArray) (r5 r6 r7 r8 : Int) (r9 : ByteArray) (r10 : List TN) (r11 r12 : Int) (hp : tree_Parse.f K ((((lfD n0 ++ sx) ++ lfD n1) ++ sy) ++ lfD n2) = some (r1, r2, r3, r4, r5, r6, r7, r8, r9, r10, r11, r12))
    (hcase : ∃ a b : TN, r10 = [a, b] ∧ r12 = 0 ∧ r9 = sy ∧ a.f3 = sx ∧ b.f0 = 1 ∧ rx ≠ 1 ∧ (ry < rx ∨ (rx = ry ∧ rx ≠ 4))) :
    Calls Tryz.prog 4 #[.agg #[.int .u8 k0, .int .u8 k1], .agg #[.int .u8 n0, .int .u8 n1, .int .u8 n2]] w fun e w' => e = .returned (.bool true) ∧ Below w.heap.size w w' := by
  have hu31 := Tryz.underlying31
  have hu39 := Tryz.underlying39
  have hu40 := Tryz.underlying40
  have hu43 := Tryz.underlying43
  have HG := Lib.hid hG
  have HP := Lib.hid hp
  have HC := Lib.hid hcase
  have HW := Lib.hid left_wakes
  have hw0 : IntKind.i64.wrap k0 = k0 := by rw [i64_w, M.wrap64_id (by unfold I64; omega)]
  have hw1 : IntKind.i64.wrap k1 = k1 := by rw [i64_w, M.wrap64_id (by unfold I64; omega)]
  clear hG hp hcase
  go_enter Tryz.func4, Tryz.ntmps4
  go_wp2_with fail
  go_region_held3 (fun w' => w'.cell? ⟨w.heap.size, 0, none⟩ = some (.int .u8 k0) ∧ w'.cell? ⟨w.heap.size, 1, none⟩ = some (.int .u8 k1)) (go_keep) (fail)
  all_goals go_wp2_with fail
  go_loopw [10] (LfS n0 n1 n2 w) (fun i _ => 3 - (intOf i).toNat)
  case atStart =>
    refine ⟨?_, ?_, ?_, ?_, Or.inl ⟨rfl, ?_⟩⟩
    · exact blk_drew (blk_alloc (blk_alloc (blk_alloc (lf_at _ _ _ (by simp)) _) _) _)
    · exact blk_drew (blk_alloc (blk_alloc (lf_at _ _ _ (by simp)) _) _)
    · exact blk_drew (blk_alloc (lf_at _ _ _ (by simp)) _)
    · exact (((((Below.refl _ _).alloc (Nat.le_refl _) _).alloc (by simp) _).alloc (by simp; omega) _).alloc (by simp; omega) _).alloc (by simp; omega) _ |>.drew
    · exact blk_drew (lf_at _ _ _ (by simp))
  case round =>
    obtain ⟨hn, hs, hr, hb, hrel⟩ := hrel
    have HNb := Lib.hid hn
    have HSb := Lib.hid hs
    have HRb := Lib.hid hr
    have HBb := Lib.hid hb
    clear hn hs hr hb
    rcases hrel with ⟨rfl, hd⟩ | ⟨rfl, hd⟩ | ⟨rfl, hd⟩ | ⟨rfl, hd⟩
    · have c0_ : wr.cell? ⟨w.heap.size + 1, 0, none⟩ = some (.int .u8 n0) := (blk_cell HNb.out 0).trans rfl
      have q0_ : wr.cell? ⟨w.heap.size + 1 + 1 + 1 + 1, 0, none⟩ = some (.string ⟨#[49]⟩) := (blk_cell hd 0).trans rfl
      have z0_ := blk_frozen hd 0
      have HDb := Lib.hid hd
      have hcv := lf_conv wr ((48 + Int.tmod n0 10) % 256)
      have hlb := blk_lt hd
      have hlb1 : (w.heap.size + 1 + 1 + 1 + 1 = wr.heap.size) = False := eq_false (by omega)
      have hlb2 : (wr.heap.size = w.heap.size + 1 + 1 + 1 + 1) = False := eq_false (by omega)
      clear hd
      go_wp2_with fail
      refine ⟨⟨blk_alloc (blk_far HNb.out (by simp) _) _, blk_alloc (blk_far HSb.out (by simp) _) _, blk_alloc (blk_far HRb.out (by simp) _) _, below_alloc (below_set HBb.out (by omega)) _, Or.inr (Or.inl ⟨rfl, blk_alloc (blk_put HDb.out 0 _ rfl) _⟩)⟩, by simp [intOf]⟩
    · have c0_ : wr.cell? ⟨w.heap.size + 1, 1, none⟩ = some (.int .u8 n1) := (blk_cell HNb.out 1).trans rfl
      have q0_ : wr.cell? ⟨w.heap.size + 1 + 1 + 1 + 1, 1, none⟩ = some (.string ⟨#[50]⟩) := (blk_cell hd 1).trans rfl
      have z0_ := blk_frozen hd 1
      have HDb := Lib.hid hd
      have hcv := lf_conv wr ((48 + Int.tmod n1 10) % 256)
      have hlb := blk_lt hd
      have hlb1 : (w.heap.size + 1 + 1 + 1 + 1 = wr.heap.size) = False := eq_false (by omega)
      have hlb2 : (wr.heap.size = w.heap.size + 1 + 1 + 1 + 1) = False := eq_false (by omega)
      clear hd
      go_wp2_with fail
      refine ⟨⟨blk_alloc (blk_far HNb.out (by simp) _) _, blk_alloc (blk_far HSb.out (by simp) _) _, blk_alloc (blk_far HRb.out (by simp) _) _, below_alloc (below_set HBb.out (by omega)) _, Or.inr (Or.inr (Or.inl ⟨rfl, blk_alloc (blk_put HDb.out 1 _ rfl) _⟩))⟩, by simp [intOf]⟩
    · have c0_ : wr.cell? ⟨w.heap.size + 1, 2, none⟩ = some (.int .u8 n2) := (blk_cell HNb.out 2).trans rfl
      have q0_ : wr.cell? ⟨w.heap.size + 1 + 1 + 1 + 1, 2, none⟩ = some (.string ⟨#[51]⟩) := (blk_cell hd 2).trans rfl
      have z0_ := blk_frozen hd 2
      have HDb := Lib.hid hd
      have hcv := lf_conv wr ((48 + Int.tmod n2 10) % 256)
      have hlb := blk_lt hd
      have hlb1 : (w.heap.size + 1 + 1 + 1 + 1 = wr.heap.size) = False := eq_false (by omega)
      have hlb2 : (wr.heap.size = w.heap.size + 1 + 1 + 1 + 1) = False := eq_false (by omega)
      clear hd
      go_wp2_with fail
      refine ⟨⟨blk_alloc (blk_far HNb.out (by simp) _) _, blk_alloc (blk_far HSb.out (by simp) _) _, blk_alloc (blk_far HRb.out (by simp) _) _, below_alloc (below_set HBb.out (by omega)) _, Or.inr (Or.inr (Or.inr ⟨rfl, blk_alloc (blk_put HDb.out 2 _ rfl) _⟩))⟩, by simp [intOf]⟩
    · have hq1 : ((0 : Int) ≤ (x : Int)) = True := eq_true (by omega)
      have hq2 : ((x : Int) < 13) = True := eq_true (by omega)
      have hq3 : ((0 : Int) ≤ (y : Int)) = True := eq_true (by omega)
      have hq4 : ((y : Int) < 13) = True := eq_true (by omega)
      have d0_ : wr.cell? ⟨w.heap.size + 1 + 1 + 1 + 1, 0, none⟩ = some (.string (lfD n0)) := (blk_cell hd 0).trans rfl
      have d1_ : wr.cell? ⟨w.heap.size + 1 + 1 + 1 + 1, 1, none⟩ = some (.string (lfD n1)) := (blk_cell hd 1).trans rfl
      have d2_ : wr.cell? ⟨w.heap.size + 1 + 1 + 1 + 1, 2, none⟩ = some (.string (lfD n2)) := (blk_cell hd 2).trans rfl
      have sx_ : wr.cell? ⟨w.heap.size + 1 + 1, x, none⟩ = some (.string sx) := (blk_cell HSb.out x).trans (by show ((lfS.map Value.string).toArray)[x]? = _; rw [List.getElem?_toArray, List.getElem?_map, hsx]; rfl)
      have sy_ : wr.cell? ⟨w.heap.size + 1 + 1, y, none⟩ = some (.string sy) := (blk_cell HSb.out y).trans (by show ((lfS.map Value.string).toArray)[y]? = _; rw [List.getElem?_toArray, List.getElem?_map, hsy]; rfl)
      have rx_ : wr.cell? ⟨w.heap.size + 1 + 1 + 1, x, none⟩ = some (.int .i64 rx) := (blk_cell HRb.out x).trans (by show ((lfR.map (Value.int .i64)).toArray)[x]? = _; rw [List.getElem?_toArray, List.getElem?_map, hrx]; rfl)
      have ry_ : wr.cell? ⟨w.heap.size + 1 + 1 + 1, y, none⟩ = some (.int .i64 ry) := (blk_cell HRb.out y).trans (by show ((lfR.map (Value.int .i64)).toArray)[y]? = _; rw [List.getElem?_toArray, List.getElem?_map, hry]; rfl)
      have hlb := blk_lt hd
      have f1a : (9223372036854775807 < (lfD n0).size + sx.size) = False := eq_false (by omega)
      have f1b : ((lfD n0).size + sx.size ≤ 9223372036854775807) = True := eq_true (by omega)
      have f1c : decide ((lfD n0).size + sx.size ≤ 9223372036854775807) = true := decide_eq_true (by omega)
      have f2a : (9223372036854775807 < (lfD n0).size + sx.size + (lfD n1).size) = False := eq_false (by omega)
      have f2b : ((lfD n0).size + sx.size + (lfD n1).size ≤ 9223372036854775807) = True := eq_true (by omega)
      have f2c : decide ((lfD n0).size + sx.size + (lfD n1).size ≤ 9223372036854775807) = true := decide_eq_true (by omega)
      have f2d : (9223372036854775807 < ((lfD n0 ++ sx)).size + (lfD n1).size) = False := by simpa only [ByteArray.size_append] using f2a
      have f2e : (((lfD n0 ++ sx)).size + (lfD n1).size ≤ 9223372036854775807) = True := by simpa only [ByteArray.size_append] using f2b
      have f3a : (9223372036854775807 < (lfD n0).size + sx.size + (lfD n1).size + sy.size) = False := eq_false (by omega)
      have f3b : ((lfD n0).size + sx.size + (lfD n1).size + sy.size ≤ 9223372036854775807) = True := eq_true (by omega)
      have f3c : decide ((lfD n0).size + sx.size + (lfD n1).size + sy.size ≤ 9223372036854775807) = true := decide_eq_true (by omega)
      have f3d : (9223372036854775807 < (((lfD n0 ++ sx) ++ lfD n1)).size + sy.size) = False := by simpa only [ByteArray.size_append] using f3a
      have f3e : ((((lfD n0 ++ sx) ++ lfD n1)).size + sy.size ≤ 9223372036854775807) = True := by simpa only [ByteArray.size_append] using f3b
      have f4a : (9223372036854775807 < (lfD n0).size + sx.size + (lfD n1).size + sy.size + (lfD n2).size) = False := eq_false (by omega)
      have f4b : ((lfD n0).size + sx.size + (lfD n1).size + sy.size + (lfD n2).size ≤ 9223372036854775807) = True := eq_true (by omega)
      have f4c : decide ((lfD n0).size + sx.size + (lfD n1).size + sy.size + (lfD n2).size ≤ 9223372036854775807) = true := decide_eq_true (by omega)
      have f4d : (9223372036854775807 < ((((lfD n0 ++ sx) ++ lfD n1) ++ sy)).size + (lfD n2).size) = False := by simpa only [ByteArray.size_append] using f4a
      have f4e : (((((lfD n0 ++ sx) ++ lfD n1) ++ sy)).size + (lfD n2).size ≤ 9223372036854775807) = True := by simpa only [ByteArray.size_append] using f4b
      have KK := Lib.hid (show S5 wr _ _ _ _ _ _ _ _ _ _ from ⟨d0_, d1_, d2_, sx_, sy_⟩)
      have HNA : Hid (w.heap.size + 1 + 1 + 1 + 1 ≠ wr.heap.size ∧ w.heap.size + 1 + 1 + 1 + 1 ≠ wr.heap.size ∧ w.heap.size + 1 + 1 + 1 + 1 ≠ wr.heap.size ∧ w.heap.size + 1 + 1 ≠ wr.heap.size ∧ w.heap.size + 1 + 1 ≠ wr.heap.size) := Lib.hid ⟨by omega, by omega, by omega, by omega, by omega⟩
      have HDb := Lib.hid hd
      clear hd hz0 hz1 hz2 hzx hzy
      go_wp2_with fail
      go_region_held3 (fun w' => w'.cell? ⟨w.heap.size + 1 + 1 + 1 + 1, 0, none⟩ = some (.string (lfD n0)) ∧ w'.cell? ⟨w.heap.size + 1 + 1 + 1 + 1, 1, none⟩ = some (.string (lfD n1)) ∧ w'.cell? ⟨w.heap.size + 1 + 1 + 1 + 1, 2, none⟩ = some (.string (lfD n2)) ∧ w'.cell? ⟨w.heap.size + 1 + 1, x, none⟩ = some (.string sx) ∧ w'.cell? ⟨w.heap.size + 1 + 1, y, none⟩ = some (.string sy)) (with_reducible first | (refine s5_put10 ?s5 ?q5; (case q5 => (first | exact HNA.out | exact HNB.out)); (case s5 => repeat (first | exact KK.out | refine s5_alloc _ ?_ | refine s5_drewN _ ?_ | refine s5_drew ?_ | refine s5_below hbl ?_))) | (repeat (first | exact KK.out | refine s5_alloc _ ?_ | refine s5_drewN _ ?_ | refine s5_drew ?_ | refine s5_below hbl ?_))) (first | (go_at_call 14; (with_reducible refine (tree_Parse.calls K _ r1 r2 r3 r4 r5 r6 r7 r8 r9 r10 r11 r12 _ ?sg HP.out).mono ?_); (case sg => exact gl_4_4 (by with_reducible repeat (first | exact HBb.out | refine below_alloc ?_ _ | refine pw_below_drewN ?_ _ | refine Below.drew ?_)) HG.out); rintro e w' ⟨v9, rfl, hV, hbl⟩; obtain ⟨A9, c9, rfl⟩ := Kd.V_slice hV; have hs1 : w.heap.size + 1 + 1 + 1 + 1 < w'.heap.size := (by have h := hbl.size; simp at h; omega); have HNB : Hid (w.heap.size + 1 + 1 + 1 + 1 ≠ w'.heap.size ∧ w.heap.size + 1 + 1 + 1 + 1 ≠ w'.heap.size ∧ w.heap.size + 1 + 1 + 1 + 1 ≠ w'.heap.size ∧ w.heap.size + 1 + 1 ≠ w'.heap.size ∧ w.heap.size + 1 + 1 ≠ w'.heap.size) := Lib.hid ⟨by omega, by omega, by omega, by omega, by omega⟩; (first | (with_reducible have nb : w'.heap[wr.heap.size]? = some nd0 := blk_below (blk_drew (blk_new wr nd0)) hbl); obtain ⟨⟨e0, e1, e2, e3, e4, e5, e6, e7, e8, e9⟩, y0, y1, y2, y3, y4, y5, y6, y7, y8, y9⟩ := z10 nb; have hs2 : wr.heap.size < w'.heap.size := blk_lt nb | (with_reducible have nb : w'.heap[wr.heap.size]? = some nd0 := blk_below (blk_new wr.drew nd0) hbl); obtain ⟨⟨e0, e1, e2, e3, e4, e5, e6, e7, e8, e9⟩, y0, y1, y2, y3, y4, y5, y6, y7, y8, y9⟩ := z10 nb; have hs2 : wr.heap.size < w'.heap.size := blk_lt nb | skip)))
      all_goals clear d0_ d1_ d2_ sx_ sy_ rx_ ry_ KK HNb HDb f1a f1b f1c f2a f2b f2c f2d f2e f3a f3b f3c f3d f3e f4a f4b f4c f4d f4e hw0 hw1
      have HE : Hid (Below w.heap.size w (w'.alloc (.cells #[.int .i64 r1, .int .i64 r2, .int .i64 r3, .string r4, .int .i64 r5, .int .i64 r6, .int .i64 r7, .int .i64 r8, .string r9, .slice A9 r10.length c9] 31 (0, 0)))) := Lib.hid (below_alloc (below_step HBb.out.drew hbl) _)
      have HS2 : Hid ((World.heap (w'.alloc (.cells #[.int .i64 r1, .int .i64 r2, .int .i64 r3, .string r4, .int .i64 r5, .int .i64 r6, .int .i64 r7, .int .i64 r8, .string r9, .slice A9 r10.length c9] 31 (0, 0))))[w.heap.size + 1 + 1]? = some lfSO) := Lib.hid (blk_alloc (blk_below (blk_drew HSb.out) hbl) _)
      have HR2 : Hid ((World.heap (w'.alloc (.cells #[.int .i64 r1, .int .i64 r2, .int .i64 r3, .string r4, .int .i64 r5, .int .i64 r6, .int .i64 r7, .int .i64 r8, .string r9, .slice A9 r10.length c9] 31 (0, 0))))[w.heap.size + 1 + 1 + 1]? = some lfRO) := Lib.hid (blk_alloc (blk_below (blk_drew HRb.out) hbl) _)
      have HX : Hid ((World.heap (w'.alloc (.cells #[.int .i64 r1, .int .i64 r2, .int .i64 r3, .string r4, .int .i64 r5, .int .i64 r6, .int .i64 r7, .int .i64 r8, .string r9, .slice A9 r10.length c9] 31 (0, 0))))[w'.heap.size]? = some (.cells #[.int .i64 r1, .int .i64 r2, .int .i64 r3, .string r4, .int .i64 r5, .int .i64 r6, .int .i64 r7, .int .i64 r8, .string r9, .slice A9 r10.length c9] 31 (0, 0))) := Lib.hid (blk_new w' _)
      have HV2 : Hid (vN (fun _ => True) (w'.alloc (.cells #[.int .i64 r1, .int .i64 r2, .int .i64 r3, .string r4, .int .i64 r5, .int .i64 r6, .int .i64 r7, .int .i64 r8, .string r9, .slice A9 r10.length c9] 31 (0, 0))) (.slice A9 r10.length c9) r10) := Lib.hid (Kd.V_alloc (Kd.V_mono (Kd.V_lower hV (Nat.zero_le _)) (fun _ _ => trivial)) _)
      generalize (w'.alloc (.cells #[.int .i64 r1, .int .i64 r2, .int .i64 r3, .string r4, .int .i64 r5, .int .i64 r6, .int .i64 r7, .int .i64 r8, .string r9, .slice A9 r10.length c9] 31 (0, 0))) = v at HE HS2 HR2 HX HV2 ⊢
      clear hV hbl HNB hs1 HNA hlb
      generalize w'.heap.size = q at HX ⊢
      rename_i hh_
      clear hh_
      rotate_left
      have HE : Hid (Below w.heap.size w (World.setCell (World.setCell (World.setCell (World.setCell (World.setCell (World.setCell (World.setCell (World.setCell (World.setCell (World.setCell w' ⟨wr.heap.size, 0, none⟩ (.int .i64 r1)) ⟨wr.heap.size, 1, none⟩ (.int .i64 r2)) ⟨wr.heap.size, 2, none⟩ (.int .i64 r3)) ⟨wr.heap.size, 3, none⟩ (.string r4)) ⟨wr.heap.size, 4, none⟩ (.int .i64 r5)) ⟨wr.heap.size, 5, none⟩ (.int .i64 r6)) ⟨wr.heap.size, 6, none⟩ (.int .i64 r7)) ⟨wr.heap.size, 7, none⟩ (.int .i64 r8)) ⟨wr.heap.size, 8, none⟩ (.string r9)) ⟨wr.heap.size, 9, none⟩ (.slice A9 r10.length c9))) := Lib.hid (put10_below (below_step (below_alloc HBb.out nd0).drew hbl) (HBb.out.size) _ _ _ _ _ _ _ _ _ _)
      have HS2 : Hid ((World.heap (World.setCell (World.setCell (World.setCell (World.setCell (World.setCell (World.setCell (World.setCell (World.setCell (World.setCell (World.setCell w' ⟨wr.heap.size, 0, none⟩ (.int .i64 r1)) ⟨wr.heap.size, 1, none⟩ (.int .i64 r2)) ⟨wr.heap.size, 2, none⟩ (.int .i64 r3)) ⟨wr.heap.size, 3, none⟩ (.string r4)) ⟨wr.heap.size, 4, none⟩ (.int .i64 r5)) ⟨wr.heap.size, 5, none⟩ (.int .i64 r6)) ⟨wr.heap.size, 6, none⟩ (.int .i64 r7)) ⟨wr.heap.size, 7, none⟩ (.int .i64 r8)) ⟨wr.heap.size, 8, none⟩ (.string r9)) ⟨wr.heap.size, 9, none⟩ (.slice A9 r10.length c9)))[w.heap.size + 1 + 1]? = some lfSO) := Lib.hid ((put10_old (by omega) _ _ _ _ _ _ _ _ _ _).trans (blk_below (blk_drew (blk_alloc HSb.out nd0)) hbl))
      have HR2 : Hid ((World.heap (World.setCell (World.setCell (World.setCell (World.setCell (World.setCell (World.setCell (World.setCell (World.setCell (World.setCell (World.setCell w' ⟨wr.heap.size, 0, none⟩ (.int .i64 r1)) ⟨wr.heap.size, 1, none⟩ (.int .i64 r2)) ⟨wr.heap.size, 2, none⟩ (.int .i64 r3)) ⟨wr.heap.size, 3, none⟩ (.string r4)) ⟨wr.heap.size, 4, none⟩ (.int .i64 r5)) ⟨wr.heap.size, 5, none⟩ (.int .i64 r6)) ⟨wr.heap.size, 6, none⟩ (.int .i64 r7)) ⟨wr.heap.size, 7, none⟩ (.int .i64 r8)) ⟨wr.heap.size, 8, none⟩ (.string r9)) ⟨wr.heap.size, 9, none⟩ (.slice A9 r10.length c9)))[w.heap.size + 1 + 1 + 1]? = some lfRO) := Lib.hid ((put10_old (by omega) _ _ _ _ _ _ _ _ _ _).trans (blk_below (blk_drew (blk_alloc HRb.out nd0)) hbl))
      have HX : Hid ((World.heap (World.setCell (World.setCell (World.setCell (World.setCell (World.setCell (World.setCell (World.setCell (World.setCell (World.setCell (World.setCell w' ⟨wr.heap.size, 0, none⟩ (.int .i64 r1)) ⟨wr.heap.size, 1, none⟩ (.int .i64 r2)) ⟨wr.heap.size, 2, none⟩ (.int .i64 r3)) ⟨wr.heap.size, 3, none⟩ (.string r4)) ⟨wr.heap.size, 4, none⟩ (.int .i64 r5)) ⟨wr.heap.size, 5, none⟩ (.int .i64 r6)) ⟨wr.heap.size, 6, none⟩ (.int .i64 r7)) ⟨wr.heap.size, 7, none⟩ (.int .i64 r8)) ⟨wr.heap.size, 8, none⟩ (.string r9)) ⟨wr.heap.size, 9, none⟩ (.slice A9 r10.length c9)))[wr.heap.size]? = some (.cells #[.int .i64 r1, .int .i64 r2, .int .i64 r3, .string r4, .int .i64 r5, .int .i64 r6, .int .i64 r7, .int .i64 r8, .string r9, .slice A9 r10.length c9] 31 (0, 0))) := Lib.hid (put10_blk nb _ _ _ _ _ _ _ _ _ _)
      have HV2 : Hid (vN (fun _ => True) (World.setCell (World.setCell (World.setCell (World.setCell (World.setCell (World.setCell (World.setCell (World.setCell (World.setCell (World.setCell w' ⟨wr.heap.size, 0, none⟩ (.int .i64 r1)) ⟨wr.heap.size, 1, none⟩ (.int .i64 r2)) ⟨wr.heap.size, 2, none⟩ (.int .i64 r3)) ⟨wr.heap.size, 3, none⟩ (.string r4)) ⟨wr.heap.size, 4, none⟩ (.int .i64 r5)) ⟨wr.heap.size, 5, none⟩ (.int .i64 r6)) ⟨wr.heap.size, 6, none⟩ (.int .i64 r7)) ⟨wr.heap.size, 7, none⟩ (.int .i64 r8)) ⟨wr.heap.size, 8, none⟩ (.string r9)) ⟨wr.heap.size, 9, none⟩ (.slice A9 r10.length c9)) (.slice A9 r10.length c9) r10) := Lib.hid (Kd.V_mono (put10_vN (ok := fun k => wr.heap.size < k) (Kd.V_mono (Kd.V_lower hV (Nat.zero_le _)) (fun k hk => by simp at hk; omega)) (fun k hk => Nat.ne_of_gt hk) _ _ _ _ _ _ _ _ _ _) (fun _ _ => trivial))
      generalize (World.setCell (World.setCell (World.setCell (World.setCell (World.setCell (World.setCell (World.setCell (World.setCell (World.setCell (World.setCell w' ⟨wr.heap.size, 0, none⟩ (.int .i64 r1)) ⟨wr.heap.size, 1, none⟩ (.int .i64 r2)) ⟨wr.heap.size, 2, none⟩ (.int .i64 r3)) ⟨wr.heap.size, 3, none⟩ (.string r4)) ⟨wr.heap.size, 4, none⟩ (.int .i64 r5)) ⟨wr.heap.size, 5, none⟩ (.int .i64 r6)) ⟨wr.heap.size, 6, none⟩ (.int .i64 r7)) ⟨wr.heap.size, 7, none⟩ (.int .i64 r8)) ⟨wr.heap.size, 8, none⟩ (.string r9)) ⟨wr.heap.size, 9, none⟩ (.slice A9 r10.length c9)) = v at HE HS2 HR2 HX HV2 ⊢
      clear hV hbl HNB hs1 HNA hlb nb hs2 e0 e1 e2 e3 e4 e5 e6 e7 e8 e9 y0 y1 y2 y3 y4 y5 y6 y7 y8 y9
      generalize wr.heap.size = q at HX ⊢
      rename_i hh_
      clear hh_
      rotate_left
      all_goals have rx_ : v.cell? ⟨w.heap.size + 1 + 1 + 1, x, none⟩ = some (.int .i64 rx) := (blk_cell HR2.out x).trans (by show ((lfR.map (Value.int .i64)).toArray)[x]? = _; rw [List.getElem?_toArray, List.getElem?_map, hrx]; rfl)
      all_goals have ry_ : v.cell? ⟨w.heap.size + 1 + 1 + 1, y, none⟩ = some (.int .i64 ry) := (blk_cell HR2.out y).trans (by show ((lfR.map (Value.int .i64)).toArray)[y]? = _; rw [List.getElem?_toArray, List.getElem?_map, hry]; rfl)
      all_goals have sx_ : v.cell? ⟨w.heap.size + 1 + 1, x, none⟩ = some (.string sx) := (blk_cell HS2.out x).trans (by show ((lfS.map Value.string).toArray)[x]? = _; rw [List.getElem?_toArray, List.getElem?_map, hsx]; rfl)
      all_goals have sy_ : v.cell? ⟨w.heap.size + 1 + 1, y, none⟩ = some (.string sy) := (blk_cell HS2.out y).trans (by show ((lfS.map Value.string).toArray)[y]? = _; rw [List.getElem?_toArray, List.getElem?_map, hsy]; rfl)
      all_goals obtain ⟨⟨c0, c1, c2, c3, c4, c5, c6, c7, c8, c9_⟩, y0, y1, y2, y3, y4, y5, y6, y7, y8, y9⟩ := z10 HX.out
      all_goals clear hsx hsy hrx hry hx hy HSb HRb HBb
      all_goals obtain ⟨a, b, rfl, rfl, rfl, hf1, hf2, hx1, hx2⟩ := HC.out
      all_goals
        clear HC
        obtain ⟨-, ad, A9', c9', hA, g0, g1, g2, g3, g4, g5, g6, g7, g8, g9, -⟩ := V_at HV2.out 0 a rfl
        obtain ⟨-, ad', A9'', c9'', hA', i0, i1, i2, i3, i4, i5, i6, i7, i8, i9, -⟩ := V_at HV2.out 1 b rfl
        subst hA
        obtain rfl := Option.some.inj hA'
        have hc9 : v.cell? ⟨q, 9, none⟩ = some (.slice (some ad) 2 c9) := c9_
        rw [hf1] at g8
        rw [hf2] at i0
        have g8' : v.cell? ⟨ad.block, ad.off + 8, none⟩ = some (.string sx) := g8
        have i0' : v.cell? ⟨ad.block, ad.off + 10, none⟩ = some (.int .i64 1) := i0
        have KK := Lib.hid (show S6 v _ _ _ _ _ _ _ _ _ _ _ _ from ⟨c8, hc9, sy_, sx_, g8', i0'⟩)
        clear g0 g1 g2 g3 g4 g5 g6 g7 g8 g9 i0 i1 i2 i3 i4 i5 i6 i7 i8 i9
        have k1_ : (rx == 1) = false := beq_eq_false_iff_ne.2 hx1
        rcases hx2 with hx2 | ⟨rfl, hx2⟩
        · have k2_ : decide (ry < rx) = true := decide_eq_true hx2
          go_wp2_with fail
          go_quiet (fail)
          go_wp2_with fail
          go_region_held3 (fun w' => w'.cell? ⟨q, 8, none⟩ = some (.string r9) ∧ w'.cell? ⟨q, 9, none⟩ = some (.slice (some ad) 2 c9) ∧ w'.cell? ⟨w.heap.size + 1 + 1, y, none⟩ = some (.string r9) ∧ w'.cell? ⟨w.heap.size + 1 + 1, x, none⟩ = some (.string sx) ∧ w'.cell? ⟨ad.block, ad.off + 8, none⟩ = some (.string sx) ∧ w'.cell? ⟨ad.block, ad.off + 10, none⟩ = some (.int .i64 1)) (with_reducible repeat (first | exact KK.out | refine s6_drewN _ ?_ | refine s6_drew ?_ | refine s6_below hb5 ?_)) (first | (go_at_call 13; (with_reducible refine (pannierlaw05_wakes.calls 1000 _ _ ?sg HW.out).mono ?_); (case sg => exact gl_4_4 (by with_reducible repeat (first | exact HE.out | refine Below.drew ?_ | refine pw_below_drewN ?_ _)) HG.out); rintro e w5 ⟨rfl, hb5⟩))
          all_goals go_wp2_with fail
          all_goals go_ret
          all_goals exact ⟨rfl, below_step (by with_reducible repeat (first | exact HE.out | refine Below.drew ?_ | refine pw_below_drewN ?_ _)) hb5⟩
        · have k2_ : (rx == 4) = false := beq_eq_false_iff_ne.2 hx2
          have k3_ : (rx != 4) = true := by rw [bne, k2_]; rfl
          go_wp2_with fail
          go_quiet (fail)
          go_wp2_with fail
          go_region_held3 (fun w' => w'.cell? ⟨q, 8, none⟩ = some (.string r9) ∧ w'.cell? ⟨q, 9, none⟩ = some (.slice (some ad) 2 c9) ∧ w'.cell? ⟨w.heap.size + 1 + 1, y, none⟩ = some (.string r9) ∧ w'.cell? ⟨w.heap.size + 1 + 1, x, none⟩ = some (.string sx) ∧ w'.cell? ⟨ad.block, ad.off + 8, none⟩ = some (.string sx) ∧ w'.cell? ⟨ad.block, ad.off + 10, none⟩ = some (.int .i64 1)) (with_reducible repeat (first | exact KK.out | refine s6_drewN _ ?_ | refine s6_drew ?_ | refine s6_below hb5 ?_)) (first | (go_at_call 13; (with_reducible refine (pannierlaw05_wakes.calls 1000 _ _ ?sg HW.out).mono ?_); (case sg => exact gl_4_4 (by with_reducible repeat (first | exact HE.out | refine Below.drew ?_ | refine pw_below_drewN ?_ _)) HG.out); rintro e w5 ⟨rfl, hb5⟩))
          all_goals go_wp2_with fail
          all_goals go_ret
          all_goals exact ⟨rfl, below_step (by with_reducible repeat (first | exact HE.out | refine Below.drew ?_ | refine pw_below_drewN ?_ _)) hb5⟩
end Go.Proofs.YtpcnaoipenclnaaGreatDoor.P

namespace Go.Proofs.YtpcnaoipenclnaaGreatDoor.P
open Go.RowKit Go.Proofs.YtpcnaoipenclnaaGreatDoorW.PrintWords Go.Proofs.YtpcnaoipenclnaaGreatDoorW.PrintLast Go.Proofs.YtpcnaoipenclnaaGreatDoorW.PrintMore
open M (I64)
set_option linter.unusedVariables false
set_option linter.unusedSimpArgs false
set_option maxHeartbeats 16000000 in
set_option maxRecDepth 100000 in
theorem left_walk_C (k0 k1 n0 n1 n2 : Int) (w : World) (hG : G4 w) (b0 : 0 ≤ k0 ∧ k0 ≤ 255) (b1 : 0 ≤ k1 ∧ k1 ≤ 255) (x y : Nat) (hx : Int.tmod k0 13 = (x : Int)) (hy : Int.tmod k1 13 = (y : Int)) (hxl : x < 13) (hyl : y < 13) (sx sy : ByteArray) (rx ry : Int) (hsx : lfS[x]? = some sx) (hsy : lfS[y]? = some sy) (hrx : lfR[x]? = some rx) (hry : lfR[y]? = some ry) (hz0 : (lfD n0).size = 1) (hz1 : (lfD n1).size = 1) (hz2 : (lfD n2).size = 1) (hzx : sx.size ≤ 2) (hzy : sy.size ≤ 2) (K : Nat) (r1 r2 r3 : Int) (r4 : ByteArray) (r5 r6 r7 r8 : Int) (r9 : ByteArray) (r10 : List TN) (r11 r12 : Int) (hp : tree_Parse.f K ((((lfD n0 ++ sx) ++ lfD n1) ++ sy) ++ lfD n2) = some (r1, r2, r3, r4, r5, r6, r7, r8, r9, r10, r11, r12))
    (hcase : ∃ a b : TN, r10 = [a, b] ∧ r12 = 0 ∧ r9 = sx ∧ b.f3 = sy ∧ a.f0 = 1 ∧ ((rx = 1 ∧ 1 < ry) ∨ (rx ≠ 1 ∧ rx < ry) ∨ (rx = 4 ∧ ry = 4))) :
    Calls Tryz.prog 4 #[.agg #[.int .u8 k0, .int .u8 k1], .agg #[.int .u8 n0, .int .u8 n1, .int .u8 n2]] w fun e w' => e = .returned (.bool true) ∧ Below w.heap.size w w' := by
  have hu31 := Tryz.underlying31
  have hu39 := Tryz.underlying39
  have hu40 := Tryz.underlying40
  have hu43 := Tryz.underlying43
  have HG := Lib.hid hG
  have HP := Lib.hid hp
  have HC := Lib.hid hcase
  have HW := Lib.hid left_wakes
  have hw0 : IntKind.i64.wrap k0 = k0 := by rw [i64_w, M.wrap64_id (by unfold I64; omega)]
  have hw1 : IntKind.i64.wrap k1 = k1 := by rw [i64_w, M.wrap64_id (by unfold I64; omega)]
  clear hG hp hcase
  go_enter Tryz.func4, Tryz.ntmps4
  go_wp2_with fail
  go_region_held3 (fun w' => w'.cell? ⟨w.heap.size, 0, none⟩ = some (.int .u8 k0) ∧ w'.cell? ⟨w.heap.size, 1, none⟩ = some (.int .u8 k1)) (go_keep) (fail)
  all_goals go_wp2_with fail
  go_loopw [10] (LfS n0 n1 n2 w) (fun i _ => 3 - (intOf i).toNat)
  case atStart =>
    refine ⟨?_, ?_, ?_, ?_, Or.inl ⟨rfl, ?_⟩⟩
    · exact blk_drew (blk_alloc (blk_alloc (blk_alloc (lf_at _ _ _ (by simp)) _) _) _)
    · exact blk_drew (blk_alloc (blk_alloc (lf_at _ _ _ (by simp)) _) _)
    · exact blk_drew (blk_alloc (lf_at _ _ _ (by simp)) _)
    · exact (((((Below.refl _ _).alloc (Nat.le_refl _) _).alloc (by simp) _).alloc (by simp; omega) _).alloc (by simp; omega) _).alloc (by simp; omega) _ |>.drew
    · exact blk_drew (lf_at _ _ _ (by simp))
  case round =>
    obtain ⟨hn, hs, hr, hb, hrel⟩ := hrel
    have HNb := Lib.hid hn
    have HSb := Lib.hid hs
    have HRb := Lib.hid hr
    have HBb := Lib.hid hb
    clear hn hs hr hb
    rcases hrel with ⟨rfl, hd⟩ | ⟨rfl, hd⟩ | ⟨rfl, hd⟩ | ⟨rfl, hd⟩
    · have c0_ : wr.cell? ⟨w.heap.size + 1, 0, none⟩ = some (.int .u8 n0) := (blk_cell HNb.out 0).trans rfl
      have q0_ : wr.cell? ⟨w.heap.size + 1 + 1 + 1 + 1, 0, none⟩ = some (.string ⟨#[49]⟩) := (blk_cell hd 0).trans rfl
      have z0_ := blk_frozen hd 0
      have HDb := Lib.hid hd
      have hcv := lf_conv wr ((48 + Int.tmod n0 10) % 256)
      have hlb := blk_lt hd
      have hlb1 : (w.heap.size + 1 + 1 + 1 + 1 = wr.heap.size) = False := eq_false (by omega)
      have hlb2 : (wr.heap.size = w.heap.size + 1 + 1 + 1 + 1) = False := eq_false (by omega)
      clear hd
      go_wp2_with fail
      refine ⟨⟨blk_alloc (blk_far HNb.out (by simp) _) _, blk_alloc (blk_far HSb.out (by simp) _) _, blk_alloc (blk_far HRb.out (by simp) _) _, below_alloc (below_set HBb.out (by omega)) _, Or.inr (Or.inl ⟨rfl, blk_alloc (blk_put HDb.out 0 _ rfl) _⟩)⟩, by simp [intOf]⟩
    · have c0_ : wr.cell? ⟨w.heap.size + 1, 1, none⟩ = some (.int .u8 n1) := (blk_cell HNb.out 1).trans rfl
      have q0_ : wr.cell? ⟨w.heap.size + 1 + 1 + 1 + 1, 1, none⟩ = some (.string ⟨#[50]⟩) := (blk_cell hd 1).trans rfl
      have z0_ := blk_frozen hd 1
      have HDb := Lib.hid hd
      have hcv := lf_conv wr ((48 + Int.tmod n1 10) % 256)
      have hlb := blk_lt hd
      have hlb1 : (w.heap.size + 1 + 1 + 1 + 1 = wr.heap.size) = False := eq_false (by omega)
      have hlb2 : (wr.heap.size = w.heap.size + 1 + 1 + 1 + 1) = False := eq_false (by omega)
      clear hd
      go_wp2_with fail
      refine ⟨⟨blk_alloc (blk_far HNb.out (by simp) _) _, blk_alloc (blk_far HSb.out (by simp) _) _, blk_alloc (blk_far HRb.out (by simp) _) _, below_alloc (below_set HBb.out (by omega)) _, Or.inr (Or.inr (Or.inl ⟨rfl, blk_alloc (blk_put HDb.out 1 _ rfl) _⟩))⟩, by simp [intOf]⟩
    · have c0_ : wr.cell? ⟨w.heap.size + 1, 2, none⟩ = some (.int .u8 n2) := (blk_cell HNb.out 2).trans rfl
      have q0_ : wr.cell? ⟨w.heap.size + 1 + 1 + 1 + 1, 2, none⟩ = some (.string ⟨#[51]⟩) := (blk_cell hd 2).trans rfl
      have z0_ := blk_frozen hd 2
      have HDb := Lib.hid hd
      have hcv := lf_conv wr ((48 + Int.tmod n2 10) % 256)
      have hlb := blk_lt hd
      have hlb1 : (w.heap.size + 1 + 1 + 1 + 1 = wr.heap.size) = False := eq_false (by omega)
      have hlb2 : (wr.heap.size = w.heap.size + 1 + 1 + 1 + 1) = False := eq_false (by omega)
      clear hd
      go_wp2_with fail
      refine ⟨⟨blk_alloc (blk_far HNb.out (by simp) _) _, blk_alloc (blk_far HSb.out (by simp) _) _, blk_alloc (blk_far HRb.out (by simp) _) _, below_alloc (below_set HBb.out (by omega)) _, Or.inr (Or.inr (Or.inr ⟨rfl, blk_alloc (blk_put HDb.out 2 _ rfl) _⟩))⟩, by simp [intOf]⟩
    · have hq1 : ((0 : Int) ≤ (x : Int)) = True := eq_true (by omega)
      have hq2 : ((x : Int) < 13) = True := eq_true (by omega)
      have hq3 : ((0 : Int) ≤ (y : Int)) = True := eq_true (by omega)
      have hq4 : ((y : Int) < 13) = True := eq_true (by omega)
      have d0_ : wr.cell? ⟨w.heap.size + 1 + 1 + 1 + 1, 0, none⟩ = some (.string (lfD n0)) := (blk_cell hd 0).trans rfl
      have d1_ : wr.cell? ⟨w.heap.size + 1 + 1 + 1 + 1, 1, none⟩ = some (.string (lfD n1)) := (blk_cell hd 1).trans rfl
      have d2_ : wr.cell? ⟨w.heap.size + 1 + 1 + 1 + 1, 2, none⟩ = some (.string (lfD n2)) := (blk_cell hd 2).trans rfl
      have sx_ : wr.cell? ⟨w.heap.size + 1 + 1, x, none⟩ = some (.string sx) := (blk_cell HSb.out x).trans (by show ((lfS.map Value.string).toArray)[x]? = _; rw [List.getElem?_toArray, List.getElem?_map, hsx]; rfl)
      have sy_ : wr.cell? ⟨w.heap.size + 1 + 1, y, none⟩ = some (.string sy) := (blk_cell HSb.out y).trans (by show ((lfS.map Value.string).toArray)[y]? = _; rw [List.getElem?_toArray, List.getElem?_map, hsy]; rfl)
      have rx_ : wr.cell? ⟨w.heap.size + 1 + 1 + 1, x, none⟩ = some (.int .i64 rx) := (blk_cell HRb.out x).trans (by show ((lfR.map (Value.int .i64)).toArray)[x]? = _; rw [List.getElem?_toArray, List.getElem?_map, hrx]; rfl)
      have ry_ : wr.cell? ⟨w.heap.size + 1 + 1 + 1, y, none⟩ = some (.int .i64 ry) := (blk_cell HRb.out y).trans (by show ((lfR.map (Value.int .i64)).toArray)[y]? = _; rw [List.getElem?_toArray, List.getElem?_map, hry]; rfl)
      have hlb := blk_lt hd
      have f1a : (9223372036854775807 < (lfD n0).size + sx.size) = False := eq_false (by omega)
      have f1b : ((lfD n0).size + sx.size ≤ 9223372036854775807) = True := eq_true (by omega)
      have f1c : decide ((lfD n0).size + sx.size ≤ 9223372036854775807) = true := decide_eq_true (by omega)
      have f2a : (9223372036854775807 < (lfD n0).size + sx.size + (lfD n1).size) = False := eq_false (by omega)
      have f2b : ((lfD n0).size + sx.size + (lfD n1).size ≤ 9223372036854775807) = True := eq_true (by omega)
      have f2c : decide ((lfD n0).size + sx.size + (lfD n1).size ≤ 9223372036854775807) = true := decide_eq_true (by omega)
      have f2d : (9223372036854775807 < ((lfD n0 ++ sx)).size + (lfD n1).size) = False := by simpa only [ByteArray.size_append] using f2a
      have f2e : (((lfD n0 ++ sx)).size + (lfD n1).size ≤ 9223372036854775807) = True := by simpa only [ByteArray.size_append] using f2b
      have f3a : (9223372036854775807 < (lfD n0).size + sx.size + (lfD n1).size + sy.size) = False := eq_false (by omega)
      have f3b : ((lfD n0).size + sx.size + (lfD n1).size + sy.size ≤ 9223372036854775807) = True := eq_true (by omega)
      have f3c : decide ((lfD n0).size + sx.size + (lfD n1).size + sy.size ≤ 9223372036854775807) = true := decide_eq_true (by omega)
      have f3d : (9223372036854775807 < (((lfD n0 ++ sx) ++ lfD n1)).size + sy.size) = False := by simpa only [ByteArray.size_append] using f3a
      have f3e : ((((lfD n0 ++ sx) ++ lfD n1)).size + sy.size ≤ 9223372036854775807) = True := by simpa only [ByteArray.size_append] using f3b
      have f4a : (9223372036854775807 < (lfD n0).size + sx.size + (lfD n1).size + sy.size + (lfD n2).size) = False := eq_false (by omega)
      have f4b : ((lfD n0).size + sx.size + (lfD n1).size + sy.size + (lfD n2).size ≤ 9223372036854775807) = True := eq_true (by omega)
      have f4c : decide ((lfD n0).size + sx.size + (lfD n1).size + sy.size + (lfD n2).size ≤ 9223372036854775807) = true := decide_eq_true (by omega)
      have f4d : (9223372036854775807 < ((((lfD n0 ++ sx) ++ lfD n1) ++ sy)).size + (lfD n2).size) = False := by simpa only [ByteArray.size_append] using f4a
      have f4e : (((((lfD n0 ++ sx) ++ lfD n1) ++ sy)).size + (lfD n2).size ≤ 9223372036854775807) = True := by simpa only [ByteArray.size_append] using f4b
      have KK := Lib.hid (show S5 wr _ _ _ _ _ _ _ _ _ _ from ⟨d0_, d1_, d2_, sx_, sy_⟩)
      have HNA : Hid (w.heap.size + 1 + 1 + 1 + 1 ≠ wr.heap.size ∧ w.heap.size + 1 + 1 + 1 + 1 ≠ wr.heap.size ∧ w.heap.size + 1 + 1 + 1 + 1 ≠ wr.heap.size ∧ w.heap.size + 1 + 1 ≠ wr.heap.size ∧ w.heap.size + 1 + 1 ≠ wr.heap.size) := Lib.hid ⟨by omega, by omega, by omega, by omega, by omega⟩
      have HDb := Lib.hid hd
      clear hd hz0 hz1 hz2 hzx hzy
      go_wp2_with fail
      go_region_held3 (fun w' => w'.cell? ⟨w.heap.size + 1 + 1 + 1 + 1, 0, none⟩ = some (.string (lfD n0)) ∧ w'.cell? ⟨w.heap.size + 1 + 1 + 1 + 1, 1, none⟩ = some (.string (lfD n1)) ∧ w'.cell? ⟨w.heap.size + 1 + 1 + 1 + 1, 2, none⟩ = some (.string (lfD n2)) ∧ w'.cell? ⟨w.heap.size + 1 + 1, x, none⟩ = some (.string sx) ∧ w'.cell? ⟨w.heap.size + 1 + 1, y, none⟩ = some (.string sy)) (with_reducible first | (refine s5_put10 ?s5 ?q5; (case q5 => (first | exact HNA.out | exact HNB.out)); (case s5 => repeat (first | exact KK.out | refine s5_alloc _ ?_ | refine s5_drewN _ ?_ | refine s5_drew ?_ | refine s5_below hbl ?_))) | (repeat (first | exact KK.out | refine s5_alloc _ ?_ | refine s5_drewN _ ?_ | refine s5_drew ?_ | refine s5_below hbl ?_))) (first | (go_at_call 14; (with_reducible refine (tree_Parse.calls K _ r1 r2 r3 r4 r5 r6 r7 r8 r9 r10 r11 r12 _ ?sg HP.out).mono ?_); (case sg => exact gl_4_4 (by with_reducible repeat (first | exact HBb.out | refine below_alloc ?_ _ | refine pw_below_drewN ?_ _ | refine Below.drew ?_)) HG.out); rintro e w' ⟨v9, rfl, hV, hbl⟩; obtain ⟨A9, c9, rfl⟩ := Kd.V_slice hV; have hs1 : w.heap.size + 1 + 1 + 1 + 1 < w'.heap.size := (by have h := hbl.size; simp at h; omega); have HNB : Hid (w.heap.size + 1 + 1 + 1 + 1 ≠ w'.heap.size ∧ w.heap.size + 1 + 1 + 1 + 1 ≠ w'.heap.size ∧ w.heap.size + 1 + 1 + 1 + 1 ≠ w'.heap.size ∧ w.heap.size + 1 + 1 ≠ w'.heap.size ∧ w.heap.size + 1 + 1 ≠ w'.heap.size) := Lib.hid ⟨by omega, by omega, by omega, by omega, by omega⟩; (first | (with_reducible have nb : w'.heap[wr.heap.size]? = some nd0 := blk_below (blk_drew (blk_new wr nd0)) hbl); obtain ⟨⟨e0, e1, e2, e3, e4, e5, e6, e7, e8, e9⟩, y0, y1, y2, y3, y4, y5, y6, y7, y8, y9⟩ := z10 nb; have hs2 : wr.heap.size < w'.heap.size := blk_lt nb | (with_reducible have nb : w'.heap[wr.heap.size]? = some nd0 := blk_below (blk_new wr.drew nd0) hbl); obtain ⟨⟨e0, e1, e2, e3, e4, e5, e6, e7, e8, e9⟩, y0, y1, y2, y3, y4, y5, y6, y7, y8, y9⟩ := z10 nb; have hs2 : wr.heap.size < w'.heap.size := blk_lt nb | skip)))
      all_goals clear d0_ d1_ d2_ sx_ sy_ rx_ ry_ KK HNb HDb f1a f1b f1c f2a f2b f2c f2d f2e f3a f3b f3c f3d f3e f4a f4b f4c f4d f4e hw0 hw1
      have HE : Hid (Below w.heap.size w (w'.alloc (.cells #[.int .i64 r1, .int .i64 r2, .int .i64 r3, .string r4, .int .i64 r5, .int .i64 r6, .int .i64 r7, .int .i64 r8, .string r9, .slice A9 r10.length c9] 31 (0, 0)))) := Lib.hid (below_alloc (below_step HBb.out.drew hbl) _)
      have HS2 : Hid ((World.heap (w'.alloc (.cells #[.int .i64 r1, .int .i64 r2, .int .i64 r3, .string r4, .int .i64 r5, .int .i64 r6, .int .i64 r7, .int .i64 r8, .string r9, .slice A9 r10.length c9] 31 (0, 0))))[w.heap.size + 1 + 1]? = some lfSO) := Lib.hid (blk_alloc (blk_below (blk_drew HSb.out) hbl) _)
      have HR2 : Hid ((World.heap (w'.alloc (.cells #[.int .i64 r1, .int .i64 r2, .int .i64 r3, .string r4, .int .i64 r5, .int .i64 r6, .int .i64 r7, .int .i64 r8, .string r9, .slice A9 r10.length c9] 31 (0, 0))))[w.heap.size + 1 + 1 + 1]? = some lfRO) := Lib.hid (blk_alloc (blk_below (blk_drew HRb.out) hbl) _)
      have HX : Hid ((World.heap (w'.alloc (.cells #[.int .i64 r1, .int .i64 r2, .int .i64 r3, .string r4, .int .i64 r5, .int .i64 r6, .int .i64 r7, .int .i64 r8, .string r9, .slice A9 r10.length c9] 31 (0, 0))))[w'.heap.size]? = some (.cells #[.int .i64 r1, .int .i64 r2, .int .i64 r3, .string r4, .int .i64 r5, .int .i64 r6, .int .i64 r7, .int .i64 r8, .string r9, .slice A9 r10.length c9] 31 (0, 0))) := Lib.hid (blk_new w' _)
      have HV2 : Hid (vN (fun _ => True) (w'.alloc (.cells #[.int .i64 r1, .int .i64 r2, .int .i64 r3, .string r4, .int .i64 r5, .int .i64 r6, .int .i64 r7, .int .i64 r8, .string r9, .slice A9 r10.length c9] 31 (0, 0))) (.slice A9 r10.length c9) r10) := Lib.hid (Kd.V_alloc (Kd.V_mono (Kd.V_lower hV (Nat.zero_le _)) (fun _ _ => trivial)) _)
      generalize (w'.alloc (.cells #[.int .i64 r1, .int .i64 r2, .int .i64 r3, .string r4, .int .i64 r5, .int .i64 r6, .int .i64 r7, .int .i64 r8, .string r9, .slice A9 r10.length c9] 31 (0, 0))) = v at HE HS2 HR2 HX HV2 ⊢
      clear hV hbl HNB hs1 HNA hlb
      generalize w'.heap.size = q at HX ⊢
      rename_i hh_
      clear hh_
      rotate_left
      have HE : Hid (Below w.heap.size w (World.setCell (World.setCell (World.setCell (World.setCell (World.setCell (World.setCell (World.setCell (World.setCell (World.setCell (World.setCell w' ⟨wr.heap.size, 0, none⟩ (.int .i64 r1)) ⟨wr.heap.size, 1, none⟩ (.int .i64 r2)) ⟨wr.heap.size, 2, none⟩ (.int .i64 r3)) ⟨wr.heap.size, 3, none⟩ (.string r4)) ⟨wr.heap.size, 4, none⟩ (.int .i64 r5)) ⟨wr.heap.size, 5, none⟩ (.int .i64 r6)) ⟨wr.heap.size, 6, none⟩ (.int .i64 r7)) ⟨wr.heap.size, 7, none⟩ (.int .i64 r8)) ⟨wr.heap.size, 8, none⟩ (.string r9)) ⟨wr.heap.size, 9, none⟩ (.slice A9 r10.length c9))) := Lib.hid (put10_below (below_step (below_alloc HBb.out nd0).drew hbl) (HBb.out.size) _ _ _ _ _ _ _ _ _ _)
      have HS2 : Hid ((World.heap (World.setCell (World.setCell (World.setCell (World.setCell (World.setCell (World.setCell (World.setCell (World.setCell (World.setCell (World.setCell w' ⟨wr.heap.size, 0, none⟩ (.int .i64 r1)) ⟨wr.heap.size, 1, none⟩ (.int .i64 r2)) ⟨wr.heap.size, 2, none⟩ (.int .i64 r3)) ⟨wr.heap.size, 3, none⟩ (.string r4)) ⟨wr.heap.size, 4, none⟩ (.int .i64 r5)) ⟨wr.heap.size, 5, none⟩ (.int .i64 r6)) ⟨wr.heap.size, 6, none⟩ (.int .i64 r7)) ⟨wr.heap.size, 7, none⟩ (.int .i64 r8)) ⟨wr.heap.size, 8, none⟩ (.string r9)) ⟨wr.heap.size, 9, none⟩ (.slice A9 r10.length c9)))[w.heap.size + 1 + 1]? = some lfSO) := Lib.hid ((put10_old (by omega) _ _ _ _ _ _ _ _ _ _).trans (blk_below (blk_drew (blk_alloc HSb.out nd0)) hbl))
      have HR2 : Hid ((World.heap (World.setCell (World.setCell (World.setCell (World.setCell (World.setCell (World.setCell (World.setCell (World.setCell (World.setCell (World.setCell w' ⟨wr.heap.size, 0, none⟩ (.int .i64 r1)) ⟨wr.heap.size, 1, none⟩ (.int .i64 r2)) ⟨wr.heap.size, 2, none⟩ (.int .i64 r3)) ⟨wr.heap.size, 3, none⟩ (.string r4)) ⟨wr.heap.size, 4, none⟩ (.int .i64 r5)) ⟨wr.heap.size, 5, none⟩ (.int .i64 r6)) ⟨wr.heap.size, 6, none⟩ (.int .i64 r7)) ⟨wr.heap.size, 7, none⟩ (.int .i64 r8)) ⟨wr.heap.size, 8, none⟩ (.string r9)) ⟨wr.heap.size, 9, none⟩ (.slice A9 r10.length c9)))[w.heap.size + 1 + 1 + 1]? = some lfRO) := Lib.hid ((put10_old (by omega) _ _ _ _ _ _ _ _ _ _).trans (blk_below (blk_drew (blk_alloc HRb.out nd0)) hbl))
      have HX : Hid ((World.heap (World.setCell (World.setCell (World.setCell (World.setCell (World.setCell (World.setCell (World.setCell (World.setCell (World.setCell (World.setCell w' ⟨wr.heap.size, 0, none⟩ (.int .i64 r1)) ⟨wr.heap.size, 1, none⟩ (.int .i64 r2)) ⟨wr.heap.size, 2, none⟩ (.int .i64 r3)) ⟨wr.heap.size, 3, none⟩ (.string r4)) ⟨wr.heap.size, 4, none⟩ (.int .i64 r5)) ⟨wr.heap.size, 5, none⟩ (.int .i64 r6)) ⟨wr.heap.size, 6, none⟩ (.int .i64 r7)) ⟨wr.heap.size, 7, none⟩ (.int .i64 r8)) ⟨wr.heap.size, 8, none⟩ (.string r9)) ⟨wr.heap.size, 9, none⟩ (.slice A9 r10.length c9)))[wr.heap.size]? = some (.cells #[.int .i64 r1, .int .i64 r2, .int .i64 r3, .string r4, .int .i64 r5, .int .i64 r6, .int .i64 r7, .int .i64 r8, .string r9, .slice A9 r10.length c9] 31 (0, 0))) := Lib.hid (put10_blk nb _ _ _ _ _ _ _ _ _ _)
      have HV2 : Hid (vN (fun _ => True) (World.setCell (World.setCell (World.setCell (World.setCell (World.setCell (World.setCell (World.setCell (World.setCell (World.setCell (World.setCell w' ⟨wr.heap.size, 0, none⟩ (.int .i64 r1)) ⟨wr.heap.size, 1, none⟩ (.int .i64 r2)) ⟨wr.heap.size, 2, none⟩ (.int .i64 r3)) ⟨wr.heap.size, 3, none⟩ (.string r4)) ⟨wr.heap.size, 4, none⟩ (.int .i64 r5)) ⟨wr.heap.size, 5, none⟩ (.int .i64 r6)) ⟨wr.heap.size, 6, none⟩ (.int .i64 r7)) ⟨wr.heap.size, 7, none⟩ (.int .i64 r8)) ⟨wr.heap.size, 8, none⟩ (.string r9)) ⟨wr.heap.size, 9, none⟩ (.slice A9 r10.length c9)) (.slice A9 r10.length c9) r10) := Lib.hid (Kd.V_mono (put10_vN (ok := fun k => wr.heap.size < k) (Kd.V_mono (Kd.V_lower hV (Nat.zero_le _)) (fun k hk => by simp at hk; omega)) (fun k hk => Nat.ne_of_gt hk) _ _ _ _ _ _ _ _ _ _) (fun _ _ => trivial))
      generalize (World.setCell (World.setCell (World.setCell (World.setCell (World.setCell (World.setCell (World.setCell (World.setCell (World.setCell (World.setCell w' ⟨wr.heap.size, 0, none⟩ (.int .i64 r1)) ⟨wr.heap.size, 1, none⟩ (.int .i64 r2)) ⟨wr.heap.size, 2, none⟩ (.int .i64 r3)) ⟨wr.heap.size, 3, none⟩ (.string r4)) ⟨wr.heap.size, 4, none⟩ (.int .i64 r5)) ⟨wr.heap.size, 5, none⟩ (.int .i64 r6)) ⟨wr.heap.size, 6, none⟩ (.int .i64 r7)) ⟨wr.heap.size, 7, none⟩ (.int .i64 r8)) ⟨wr.heap.size, 8, none⟩ (.string r9)) ⟨wr.heap.size, 9, none⟩ (.slice A9 r10.length c9)) = v at HE HS2 HR2 HX HV2 ⊢
      clear hV hbl HNB hs1 HNA hlb nb hs2 e0 e1 e2 e3 e4 e5 e6 e7 e8 e9 y0 y1 y2 y3 y4 y5 y6 y7 y8 y9
      generalize wr.heap.size = q at HX ⊢
      rename_i hh_
      clear hh_
      rotate_left
      all_goals have rx_ : v.cell? ⟨w.heap.size + 1 + 1 + 1, x, none⟩ = some (.int .i64 rx) := (blk_cell HR2.out x).trans (by show ((lfR.map (Value.int .i64)).toArray)[x]? = _; rw [List.getElem?_toArray, List.getElem?_map, hrx]; rfl)
      all_goals have ry_ : v.cell? ⟨w.heap.size + 1 + 1 + 1, y, none⟩ = some (.int .i64 ry) := (blk_cell HR2.out y).trans (by show ((lfR.map (Value.int .i64)).toArray)[y]? = _; rw [List.getElem?_toArray, List.getElem?_map, hry]; rfl)
      all_goals have sx_ : v.cell? ⟨w.heap.size + 1 + 1, x, none⟩ = some (.string sx) := (blk_cell HS2.out x).trans (by show ((lfS.map Value.string).toArray)[x]? = _; rw [List.getElem?_toArray, List.getElem?_map, hsx]; rfl)
      all_goals have sy_ : v.cell? ⟨w.heap.size + 1 + 1, y, none⟩ = some (.string sy) := (blk_cell HS2.out y).trans (by show ((lfS.map Value.string).toArray)[y]? = _; rw [List.getElem?_toArray, List.getElem?_map, hsy]; rfl)
      all_goals obtain ⟨⟨c0, c1, c2, c3, c4, c5, c6, c7, c8, c9_⟩, y0, y1, y2, y3, y4, y5, y6, y7, y8, y9⟩ := z10 HX.out
      all_goals clear hsx hsy hrx hry hx hy HSb HRb HBb
      all_goals obtain ⟨a, b, rfl, rfl, rfl, hf1, hf2, hx1⟩ := HC.out
      all_goals
        clear HC
        obtain ⟨-, ad, A9', c9', hA, g0, g1, g2, g3, g4, g5, g6, g7, g8, g9, -⟩ := V_at HV2.out 0 a rfl
        obtain ⟨-, ad', A9'', c9'', hA', i0, i1, i2, i3, i4, i5, i6, i7, i8, i9, -⟩ := V_at HV2.out 1 b rfl
        subst hA
        obtain rfl := Option.some.inj hA'
        have hc9 : v.cell? ⟨q, 9, none⟩ = some (.slice (some ad) 2 c9) := c9_
        rw [hf1] at i8
        rw [hf2] at g0
        have i8' : v.cell? ⟨ad.block, ad.off + 10 + 8, none⟩ = some (.string sy) := i8
        have g0' : v.cell? ad = some (.int .i64 1) := g0
        have KK := Lib.hid (show S6 v _ _ _ _ _ _ _ _ _ _ _ _ from ⟨c8, hc9, sy_, sx_, i8', g0'⟩)
        clear g0 g1 g2 g3 g4 g5 g6 g7 g8 g9 i0 i1 i2 i3 i4 i5 i6 i7 i8 i9
        rcases hx1 with ⟨rfl, hx1⟩ | ⟨hx1, hx2⟩ | ⟨rfl, rfl⟩
        · have k1_ : (ry == 1) = false := beq_eq_false_iff_ne.2 (by omega)
          have k2_ : decide (ry < 1) = false := decide_eq_false (by omega)
          have k3_ : ((1 : Int) == ry) = false := beq_eq_false_iff_ne.2 (by omega)
          go_wp2_with fail
          go_quiet (fail)
          go_wp2_with fail
          go_region_held3 (fun w' => w'.cell? ⟨q, 8, none⟩ = some (.string r9) ∧ w'.cell? ⟨q, 9, none⟩ = some (.slice (some ad) 2 c9) ∧ w'.cell? ⟨w.heap.size + 1 + 1, y, none⟩ = some (.string sy) ∧ w'.cell? ⟨w.heap.size + 1 + 1, x, none⟩ = some (.string r9) ∧ w'.cell? ⟨ad.block, ad.off + 10 + 8, none⟩ = some (.string sy) ∧ w'.cell? ad = some (.int .i64 1)) (with_reducible repeat (first | exact KK.out | refine s6_drewN _ ?_ | refine s6_drew ?_ | refine s6_below hb5 ?_)) (first | (go_at_call 13; (with_reducible refine (pannierlaw05_wakes.calls 1000 _ _ ?sg HW.out).mono ?_); (case sg => exact gl_4_4 (by with_reducible repeat (first | exact HE.out | refine Below.drew ?_ | refine pw_below_drewN ?_ _)) HG.out); rintro e w5 ⟨rfl, hb5⟩))
          all_goals go_wp2_with fail
          all_goals go_ret
          all_goals exact ⟨rfl, below_step (by with_reducible repeat (first | exact HE.out | refine Below.drew ?_ | refine pw_below_drewN ?_ _)) hb5⟩
        · have k1_ : (rx == 1) = false := beq_eq_false_iff_ne.2 hx1
          have k2_ : decide (ry < rx) = false := decide_eq_false (by omega)
          have k3_ : (rx == ry) = false := beq_eq_false_iff_ne.2 (by omega)
          go_wp2_with fail
          go_quiet (fail)
          go_wp2_with fail
          go_region_held3 (fun w' => w'.cell? ⟨q, 8, none⟩ = some (.string r9) ∧ w'.cell? ⟨q, 9, none⟩ = some (.slice (some ad) 2 c9) ∧ w'.cell? ⟨w.heap.size + 1 + 1, y, none⟩ = some (.string sy) ∧ w'.cell? ⟨w.heap.size + 1 + 1, x, none⟩ = some (.string r9) ∧ w'.cell? ⟨ad.block, ad.off + 10 + 8, none⟩ = some (.string sy) ∧ w'.cell? ad = some (.int .i64 1)) (with_reducible repeat (first | exact KK.out | refine s6_drewN _ ?_ | refine s6_drew ?_ | refine s6_below hb5 ?_)) (first | (go_at_call 13; (with_reducible refine (pannierlaw05_wakes.calls 1000 _ _ ?sg HW.out).mono ?_); (case sg => exact gl_4_4 (by with_reducible repeat (first | exact HE.out | refine Below.drew ?_ | refine pw_below_drewN ?_ _)) HG.out); rintro e w5 ⟨rfl, hb5⟩))
          all_goals go_wp2_with fail
          all_goals go_ret
          all_goals exact ⟨rfl, below_step (by with_reducible repeat (first | exact HE.out | refine Below.drew ?_ | refine pw_below_drewN ?_ _)) hb5⟩
        · skip
          go_wp2_with fail
          go_quiet (fail)
          go_wp2_with fail
          go_region_held3 (fun w' => w'.cell? ⟨q, 8, none⟩ = some (.string r9) ∧ w'.cell? ⟨q, 9, none⟩ = some (.slice (some ad) 2 c9) ∧ w'.cell? ⟨w.heap.size + 1 + 1, y, none⟩ = some (.string sy) ∧ w'.cell? ⟨w.heap.size + 1 + 1, x, none⟩ = some (.string r9) ∧ w'.cell? ⟨ad.block, ad.off + 10 + 8, none⟩ = some (.string sy) ∧ w'.cell? ad = some (.int .i64 1)) (with_reducible repeat (first | exact KK.out | refine s6_drewN _ ?_ | refine s6_drew ?_ | refine s6_below hb5 ?_)) (first | (go_at_call 13; (with_reducible refine (pannierlaw05_wakes.calls 1000 _ _ ?sg HW.out).mono ?_); (case sg => exact gl_4_4 (by with_reducible repeat (first | exact HE.out | refine Below.drew ?_ | refine pw_below_drewN ?_ _)) HG.out); rintro e w5 ⟨rfl, hb5⟩))
          all_goals go_wp2_with fail
          all_goals go_ret
          all_goals exact ⟨rfl, below_step (by with_reducible repeat (first | exact HE.out | refine Below.drew ?_ | refine pw_below_drewN ?_ _)) hb5⟩
end Go.Proofs.YtpcnaoipenclnaaGreatDoor.P

namespace Go.Proofs.YtpcnaoipenclnaaGreatDoor.P
open Go.RowKit Go.Proofs.YtpcnaoipenclnaaGreatDoorW.PrintWords Go.Proofs.YtpcnaoipenclnaaGreatDoorW.PrintLast Go.Proofs.YtpcnaoipenclnaaGreatDoorW.PrintMore
open M (I64)
attribute [local go_sem high] eqA28
set_option linter.unusedVariables false
set_option linter.unusedSimpArgs false
def sameL (f : TN → TN → Option Bool) : List TN → List TN → Option Bool
  | [], [] => some true
  | a :: l, b :: m => match f a b with | none => none | some false => some false | some true => sameL f l m
  | _, _ => some false
def valO (a b : TN) : Option Bool := value_Same.f a.f1.f0 a.f1.f1 a.f1.f2 b.f1.f0 b.f1.f1 b.f1.f2
def sameF : Nat → TN → TN → Option Bool
  | 0, _, _ => none
  | k + 1, a, b =>
    if a.f0 = b.f0 then
      match valO a b with
      | none => none
      | some false => some false
      | some true => if a.f2.f0.f0 = b.f2.f0.f0 ∧ a.f2.f0.f1 = b.f2.f0.f1 ∧ a.f2.f1.f0 = b.f2.f1.f0 ∧ a.f2.f1.f1 = b.f2.f1.f1 then (if (a.f3.toList == b.f3.toList) = true then (if a.f4.length = b.f4.length then sameL (sameF k) a.f4 b.f4 else some false) else some false) else some false
    else some false
end Go.Proofs.YtpcnaoipenclnaaGreatDoor.P

namespace Go.Proofs.YtpcnaoipenclnaaGreatDoor.P
open Go.RowKit Go.Proofs.YtpcnaoipenclnaaGreatDoorW.PrintWords Go.Proofs.YtpcnaoipenclnaaGreatDoorW.PrintLast Go.Proofs.YtpcnaoipenclnaaGreatDoorW.PrintMore
set_option linter.unusedVariables false
set_option linter.unusedSimpArgs false
def tree_same.f (k : Nat) (a0_0 a0_1 a0_2 : Int) (a0_3 : ByteArray) (a0_4 a0_5 a0_6 a0_7 : Int) (a0_8 : ByteArray) (l0_9 : List S31) (a1_0 a1_1 a1_2 : Int) (a1_3 : ByteArray) (a1_4 a1_5 a1_6 a1_7 : Int) (a1_8 : ByteArray) (l1_9 : List S31) : Option Bool :=
  sameF k ⟨a0_0, ⟨a0_1, a0_2, a0_3⟩, ⟨⟨a0_4, a0_5⟩, ⟨a0_6, a0_7⟩⟩, a0_8, l0_9⟩ ⟨a1_0, ⟨a1_1, a1_2, a1_3⟩, ⟨⟨a1_4, a1_5⟩, ⟨a1_6, a1_7⟩⟩, a1_8, l1_9⟩
end Go.Proofs.YtpcnaoipenclnaaGreatDoor.P

namespace Go.Proofs.YtpcnaoipenclnaaGreatDoor.P
open Go.RowKit Go.Proofs.YtpcnaoipenclnaaGreatDoorW.PrintWords Go.Proofs.YtpcnaoipenclnaaGreatDoorW.PrintLast Go.Proofs.YtpcnaoipenclnaaGreatDoorW.PrintMore
open M (I64)
set_option linter.unusedVariables false
set_option linter.unusedSimpArgs false
abbrev LTok := S109
def cutL : Nat → List UInt8 → Nat → List LTok × Int × Int
  | 0, _, _ => ([], 0, 0)
  | _ + 1, [], _ => ([], 0, 0)
  | d + 1, c :: r, n =>
    if kindOf (c.toNat : Int) = 1 then cutL d r (n + 1) else
      match oneV ⟨(c :: r).toArray⟩ with
      | (ta, tb, tc, _, tm) =>
        if tm = 0 then ([], (n : Int), 12) else
          match cutL d ((c :: r).drop tm.toNat) (n + tm.toNat) with
          | (ts, p, e) => if e = 0 then (⟨ta, tb, tc, (n : Int)⟩ :: ts, p, e) else ([], p, e)
def cutR (R : List LTok × Int × Int) : List LTok × Int × Int := if R.2.2 = 0 then (R.1, 0, 0) else ([], R.2.1, R.2.2)
theorem xrest_size (s : ByteArray) (n : Nat) : (s.extract n s.size).size = s.size - n := by rw [ByteArray.size_extract]; omega
theorem xrest (s : ByteArray) (n : Nat) : s.extract n s.size = ⟨(s.data.toList.drop n).toArray⟩ := by
  apply ByteArray.ext
  rw [← Array.toList_inj, ByteArray.data_extract, Array.toList_extract, List.extract_eq_take_drop]
  rw [List.take_of_length_le (by simp)]
theorem xtextF_len (s : ByteArray) : ∀ (d i : Nat) (out : List UInt8), ∃ w : Nat, (textF s d i out).2 = (w : Int) ∧ w ≤ s.size
  | 0, i, out => ⟨0, rfl, Nat.zero_le _⟩
  | d + 1, i, out => by
    unfold textF
    split
    · split
      · split
        · exact ⟨i + 1, rfl, by omega⟩
        · exact xtextF_len s d (i + 2) _
      · exact xtextF_len s d (i + 1) _
    · exact ⟨0, rfl, Nat.zero_le _⟩
theorem xoneV_len (s : ByteArray) (h : 0 < s.size) : ∃ w : Nat, (oneV s).2.2.2.2 = (w : Int) ∧ w ≤ s.size := by
  unfold oneV
  split
  · split
    · exact ⟨_, rfl, (runN_le digP s s.size 0 (by omega)).1⟩
    · exact ⟨0, rfl, Nat.zero_le _⟩
  · split
    · exact xtextF_len s _ _ _
    · split
      · exact ⟨_, rfl, (runN_le wordP s s.size 0 (by omega)).1⟩
      · split
        · exact ⟨_, rfl, (signs_le s h).2⟩
        · exact ⟨0, rfl, Nat.zero_le _⟩
theorem xone_some (s : ByteArray) (n : Nat) (hs : s.size ≤ 1000000000) (hn : n < s.size) : lex_one.f (s.extract n s.size) = some (oneV (s.extract n s.size)) := by
  unfold lex_one.f; rw [if_pos (by rw [xrest_size]; omega)]
theorem xkind_any (s : ByteArray) (i k : Nat) (hk : 20 ≤ k) : lex_kind.f k (bt s (i : Int)) = some (kindOf (bt s (i : Int))) := at_rounds (lex_kind.mono _) hk (kind_bt s i)
theorem xbt (s : ByteArray) (n : Nat) (h : n < s.size) : bt s (n : Int) = (((s.data.toList[n]'(by simpa using h)).toNat : Nat) : Int) := by
  rw [bt_bu]
  unfold bu
  rw [List.getD_eq_getElem?_getD, List.getElem?_eq_getElem (by simpa using h)]
  rfl
def addR (l : List LTok) (R : List LTok × Int × Int) : List LTok × Int × Int := if R.2.2 = 0 then (l ++ R.1, 0, 0) else ([], R.2.1, R.2.2)
theorem addR_ok (l ts : List LTok) (p : Int) : addR l (ts, p, 0) = (l ++ ts, 0, 0) := rfl
theorem addR_no (l ts : List LTok) (p : Int) {e : Int} (h : e ≠ 0) : addR l (ts, p, e) = ([], p, e) := if_neg h
theorem cutL_loop (s : ByteArray) (hs : s.size ≤ 1000000) : ∀ (d n k : Nat) (l : List LTok), s.size - n ≤ d → n ≤ s.size → d + 20 < k → l.length ≤ n →
    lex_Cut.l0 k s l (n : Int) = some (addR l (cutL d (s.data.toList.drop n) n)) := by
  intro d
  induction d with
  | zero =>
    intro n k l hd hn hk hl
    obtain ⟨k, rfl⟩ : ∃ m, k = m + 1 := ⟨k - 1, by omega⟩
    rw [lex_Cut.l0, if_neg (by omega), cutL, addR_ok, List.append_nil]
  | succ d ih =>
    intro n k l hd hn hk hl
    obtain ⟨k, rfl⟩ : ∃ m, k = m + 1 := ⟨k - 1, by omega⟩
    rw [lex_Cut.l0]
    by_cases hlt : n < s.size
    · have hlt' : n < s.data.toList.length := by simpa using hlt
      have hd2 : s.data.toList.drop n = s.data.toList[n] :: s.data.toList.drop (n + 1) := List.drop_eq_getElem_cons hlt'
      rw [if_pos (by omega), if_pos (by omega), xkind_any s n k (by omega), Option.bind_some, hd2, cutL, ← xbt s n hlt]
      by_cases hb : kindOf (bt s (n : Int)) = 1
      · rw [if_pos hb, if_pos hb, show wrap64 ((n : Int) + 1) = ((n + 1 : Nat) : Int) by rw [M.wrap64_id (by unfold I64; omega)]; omega]
        exact ih (n + 1) k l (by omega) (by omega) (by omega) (by omega)
      · rw [if_neg hb, if_neg hb, if_pos (by omega)]
        have ho : lex_one.f (s.extract ((n : Int)).toNat s.size) = some (oneV (s.extract n s.size)) := xone_some s n (by omega) hlt
        obtain ⟨w, hw, hwl⟩ := xoneV_len (s.extract n s.size) (by rw [xrest_size]; omega)
        rw [xrest_size] at hwl
        rw [ho, Option.bind_some, ← hd2, ← xrest]
        clear ho
        generalize oneV (s.extract n s.size) = t at *
        obtain ⟨ta, tb, tc, td, tm⟩ := t
        have hw' : tm = (w : Int) := hw
        subst hw'
        dsimp only
        by_cases hz : (w : Int) = 0
        · rw [if_pos hz, if_pos hz]; rfl
        · rw [if_neg hz, if_neg hz, if_pos (by omega)]
          have hwr : wrap64 ((n : Int) + (w : Int)) = ((n + w : Nat) : Int) := by rw [M.wrap64_id (by unfold I64; omega)]; omega
          have b3 : (l ++ [(⟨ta, tb, tc, (n : Int)⟩ : LTok)]).length ≤ n + w := by rw [List.length_append, List.length_singleton]; omega
          have := ih (n + w) k (l ++ [(⟨ta, tb, tc, (n : Int)⟩ : LTok)]) (by omega) (by omega) (by omega) b3
          rw [hwr, this, List.drop_drop, show ((w : Int)).toNat = w by omega]
          generalize cutL d (s.data.toList.drop (n + w)) (n + w) = R
          obtain ⟨ts, p, e⟩ := R
          dsimp only
          by_cases he : e = 0
          · subst he; rw [if_pos rfl, addR_ok, addR_ok, List.append_assoc]; rfl
          · rw [if_neg he, addR_no _ _ _ he, addR_no _ _ _ he]
    · rw [if_neg (by omega), List.drop_of_length_le (by simpa using Nat.le_of_not_lt hlt), cutL, addR_ok, List.append_nil]
theorem cut_list (s : ByteArray) (hs : s.size ≤ 300) (k : Nat) (hk : 400 ≤ k) : lex_Cut.f k s = some (cutR (cutL s.size s.data.toList 0)) := by
  unfold lex_Cut.f
  rw [if_neg (by omega)]
  have h := cutL_loop s (by omega) s.size 0 k [] (by omega) (Nat.zero_le _) (by omega) (Nat.le_refl _)
  rw [List.drop_zero] at h
  exact h
end Go.Proofs.YtpcnaoipenclnaaGreatDoor.P

namespace Go.Proofs.YtpcnaoipenclnaaGreatDoor.P
open Go.RowKit Go.Proofs.YtpcnaoipenclnaaGreatDoorW.PrintWords Go.Proofs.YtpcnaoipenclnaaGreatDoorW.PrintLast Go.Proofs.YtpcnaoipenclnaaGreatDoorW.PrintMore
open M (I64)
set_option linter.unusedVariables false
set_option linter.unusedSimpArgs false
theorem cp_runN (p : Int → Bool) (s : ByteArray) (d i : Nat) : runN p s (d + 1) i = if i < s.size then (if p (kindOf (bt s (i : Int))) = true then runN p s d (i + 1) else i) else i := rfl
theorem cp_rest (s : ByteArray) (n m : Nat) : (s.extract n m).data.toList = (s.data.toList.drop n).take (m - n) := by
  rw [ByteArray.data_extract, Array.toList_extract, List.extract_eq_take_drop]
theorem cp_two (s : ByteArray) (h : 2 ≤ s.size) : (s.extract 0 2).toList = [bu s 0, bu s 1] := by
  rw [ByteArray.toList_eq, cp_rest, List.drop_zero]
  have hlen : s.data.toList.length = s.size := Array.length_toList
  unfold bu
  match e : s.data.toList, hlen with
  | [], hl => rw [e] at hlen; simp at hlen; omega
  | [a], hl => rw [e] at hlen; simp at hlen; omega
  | a :: b :: r, hl => rfl
theorem cp_len (l : List UInt8) : (⟨l.toArray⟩ : ByteArray).size = l.length := rfl
theorem one_w (c : UInt8) (r : List UInt8) : ∃ w : Nat, (oneV ⟨(c :: r).toArray⟩).2.2.2.2 = (w : Int) ∧ w ≤ r.length + 1 := xoneV_len ⟨(c :: r).toArray⟩ (by rw [cp_len, List.length_cons]; omega)
theorem cutL_nil (d n : Nat) : cutL d [] n = ([], 0, 0) := by cases d <;> rfl
def NameB (s : ByteArray) : Prop := 0 < s.size ∧ ∀ i, i < s.size → (65 ≤ (bu s i).toNat ∧ (bu s i).toNat ≤ 90) ∨ (0 < i ∧ 48 ≤ (bu s i).toNat ∧ (bu s i).toNat ≤ 57)
structure TokOk (L : Nat) (t : LTok) : Prop where
  num : t.f0 = 1 → 0 ≤ t.f1
  name : t.f0 = 3 → NameB t.f2
  size : t.f2.size ≤ L
  at_ : 0 ≤ t.f3
end Go.Proofs.YtpcnaoipenclnaaGreatDoor.P

namespace Go.Proofs.YtpcnaoipenclnaaGreatDoor.P
open Go.RowKit Go.Proofs.YtpcnaoipenclnaaGreatDoorW.PrintWords Go.Proofs.YtpcnaoipenclnaaGreatDoorW.PrintLast Go.Proofs.YtpcnaoipenclnaaGreatDoorW.PrintMore
open M (I64)
set_option linter.unusedVariables false
set_option linter.unusedSimpArgs false
theorem depO_any {k j : Nat} (h : k ≤ j) {t : TN} {r : Int} (e : depO k t = some r) : depO j t = some r := at_rounds (g := fun k => depO k t) (fun k r h => tree_depth.mono _ _ _ _ _ _ _ _ _ _ k r h) h e
end Go.Proofs.YtpcnaoipenclnaaGreatDoor.P



namespace Go.Proofs.YtpcnaoipenclnaaGreatDoor.P
open Go.RowKit Go.Proofs.YtpcnaoipenclnaaGreatDoorW.PrintWords Go.Proofs.YtpcnaoipenclnaaGreatDoorW.PrintLast Go.Proofs.YtpcnaoipenclnaaGreatDoorW.PrintMore
open M (I64)
set_option linter.unusedVariables false
set_option linter.unusedSimpArgs false
section
variable {toks : List Tok} {L : Nat} (hT : ∀ t ∈ toks, TokOk L t) {en : Int} (he : 0 ≤ en)
include hT he
end
theorem kd_num : ∀ c : Fin 256, (kindOf (c.val : Int) == 2) = (decide (48 ≤ c.val) && decide (c.val ≤ 57)) := by decide +kernel
theorem kd_let : ∀ c : Fin 256, (kindOf (c.val : Int) == 3) = ((decide (65 ≤ c.val) && decide (c.val ≤ 90)) || (decide (97 ≤ c.val) && decide (c.val ≤ 122))) := by decide +kernel
theorem num_byte (s : ByteArray) (i : Nat) (h : kindOf (bt s (i : Int)) = 2) : 48 ≤ (bu s i).toNat ∧ (bu s i).toNat ≤ 57 := by
  have := kd_num ⟨(bu s i).toNat, (bu s i).toNat_lt⟩
  rw [bt_bu] at h
  simp only [h, beq_self_eq_true, Bool.true_eq, Bool.and_eq_true, decide_eq_true_eq] at this
  exact this
theorem let_byte (s : ByteArray) (i : Nat) (h : kindOf (bt s (i : Int)) = 3) : (65 ≤ (bu s i).toNat ∧ (bu s i).toNat ≤ 90) ∨ (97 ≤ (bu s i).toNat ∧ (bu s i).toNat ≤ 122) := by
  have := kd_let ⟨(bu s i).toNat, (bu s i).toNat_lt⟩
  rw [bt_bu] at h
  simp only [h, beq_self_eq_true, Bool.true_eq, Bool.or_eq_true, Bool.and_eq_true, decide_eq_true_eq] at this
  exact this
theorem runN_all (p : Int → Bool) (s : ByteArray) : ∀ (d i j : Nat), i ≤ j → j < runN p s d i → p (kindOf (bt s (j : Int))) = true
  | 0, i, j, h, h2 => by rw [runN] at h2; omega
  | d + 1, i, j, h, h2 => by
    rw [runN] at h2
    by_cases hlt : i < s.size
    · rw [if_pos hlt] at h2
      by_cases hp : p (kindOf (bt s (i : Int))) = true
      · rw [if_pos hp] at h2
        by_cases hij : i = j
        · subst hij; exact hp
        · exact runN_all p s d (i + 1) j (by omega) h2
      · rw [if_neg hp] at h2; omega
    · rw [if_neg hlt] at h2; omega
theorem textF_size (s : ByteArray) : ∀ (d i : Nat) (out : List UInt8), out.length ≤ i → (textF s d i out).1.size ≤ s.size
  | 0, i, out, h => by rw [textF]; exact Nat.zero_le _
  | d + 1, i, out, h => by
    unfold textF
    split
    · split
      · split
        · show out.length ≤ s.size; omega
        · exact textF_size s d (i + 2) _ (by rw [List.length_append, List.length_singleton]; omega)
      · exact textF_size s d (i + 1) _ (by rw [List.length_append, List.length_singleton]; omega)
    · exact Nat.zero_le _
theorem pI_ge {s : ByteArray} {c : UInt8} {r : List UInt8} (h : s.data.toList = c :: r) (hc : c.toNat ≠ 45) : 0 ≤ (pI s).1 := by
  unfold pI
  rw [h]
  unfold Lib.parseIntB
  dsimp only
  cases hq : Lib.parseUintB 64 (if c.toNat = 43 ∨ c.toNat = 45 then r else c :: r)
  · rename_i u
    dsimp only
    by_cases h1 : ¬ c.toNat = 45 ∧ 2 ^ (64 - 1) ≤ u
    · rw [if_pos h1]; exact Int.le_refl _
    · rw [if_neg h1, if_neg (fun h => hc h.1), if_neg hc]; exact Int.natCast_nonneg u
  · exact Int.le_refl _
  · exact Int.le_refl _
end Go.Proofs.YtpcnaoipenclnaaGreatDoor.P

namespace Go.Proofs.YtpcnaoipenclnaaGreatDoor.P
open Go.RowKit Go.Proofs.YtpcnaoipenclnaaGreatDoorW.PrintWords Go.Proofs.YtpcnaoipenclnaaGreatDoorW.PrintLast Go.Proofs.YtpcnaoipenclnaaGreatDoorW.PrintMore
open M (I64)
set_option linter.unusedVariables false
set_option linter.unusedSimpArgs false
theorem xt_len (s : ByteArray) : s.data.toList.length = s.size := Array.length_toList
theorem bu_part (s : ByteArray) (m i : Nat) (h : i < m) : bu (s.extract 0 m) i = bu s i := by
  unfold bu
  rw [cp_rest, List.drop_zero, List.getD_eq_getElem?_getD, List.getD_eq_getElem?_getD, List.getElem?_take_of_lt (by omega)]
theorem bu_up (s : ByteArray) (i : Nat) (h : i < s.size) : bu (upS s) i = upC (bu s i) := by
  have hl := xt_len s
  unfold bu upS upL
  rw [List.getD_eq_getElem?_getD, List.getD_eq_getElem?_getD]
  show ((s.data.toList.map upC)[i]?).getD 0 = _
  rw [List.getElem?_map, List.getElem?_eq_getElem (by omega)]
  rfl
theorem up_size (s : ByteArray) : (upS s).size = s.size := by
  show (s.data.toList.map upC).length = s.size
  rw [List.length_map]; exact xt_len s
theorem part_size (s : ByteArray) (m : Nat) (h : m ≤ s.size) : (s.extract 0 m).size = m := by rw [ByteArray.size_extract]; omega
theorem up_byte (c : UInt8) : (65 ≤ c.toNat ∧ c.toNat ≤ 90) ∨ (97 ≤ c.toNat ∧ c.toNat ≤ 122) → 65 ≤ (upC c).toNat ∧ (upC c).toNat ≤ 90 := by
  have : ∀ c : Fin 256, (65 ≤ c.val ∧ c.val ≤ 90) ∨ (97 ≤ c.val ∧ c.val ≤ 122) → 65 ≤ (upC (UInt8.ofNat c.val)).toNat ∧ (upC (UInt8.ofNat c.val)).toNat ≤ 90 := by decide +kernel
  have h := this ⟨c.toNat, c.toNat_lt⟩
  simpa using h
theorem up_num (c : UInt8) (h : 48 ≤ c.toNat ∧ c.toNat ≤ 57) : upC c = c := by
  unfold upC; rw [if_neg (by omega)]
theorem one_ok (s : ByteArray) (h0 : 0 < s.size) : ((oneV s).1 = 1 → 0 ≤ (oneV s).2.1) ∧ ((oneV s).1 = 3 → NameB (oneV s).2.2.1) ∧ (oneV s).2.2.1.size ≤ s.size := by
  unfold oneV
  by_cases h2 : kindOf (bt s 0) = 2
  · rw [if_pos h2]
    by_cases hp : (pI (s.extract 0 (digN s))).2 = true
    · rw [if_pos hp]
      refine ⟨fun _ => ?_, fun h => (by cases h), Nat.zero_le _⟩
      show 0 ≤ (pI (s.extract 0 (digN s))).1
      cases e : (s.extract 0 (digN s)).data.toList with
      | nil => unfold pI; rw [e]; exact Int.le_refl _
      | cons c r =>
        refine pI_ge e ?_
        have hb := num_byte s 0 h2
        rw [cp_rest, List.drop_zero] at e
        have hc : bu s 0 = c := by
          unfold bu
          cases el : s.data.toList with
          | nil => rw [el] at e; simp at e
          | cons a l =>
            rw [el] at e
            cases ed : digN s - 0 with
            | zero => rw [ed] at e; cases e
            | succ j => rw [ed, List.take_succ_cons] at e; cases e; rfl
        rw [hc] at hb; omega
    · rw [if_neg hp]; exact ⟨fun h => (by cases h), fun h => (by cases h), Nat.zero_le _⟩
  · rw [if_neg h2]
    by_cases h4 : kindOf (bt s 0) = 4
    · rw [if_pos h4]
      exact ⟨fun h => (by cases h), fun h => (by cases h), textF_size s (s.size + 1) 1 [] (Nat.zero_le _)⟩
    · rw [if_neg h4]
      by_cases h3 : kindOf (bt s 0) = 3
      · rw [if_pos h3]
        have hw : wordN s ≤ s.size := (runN_le wordP s s.size 0 (Nat.zero_le _)).1
        have hsz : (upS (s.extract 0 (wordN s))).size = wordN s := by rw [up_size, part_size s _ hw]
        refine ⟨fun h => (by cases h), fun _ => ?_, by show (upS (s.extract 0 (wordN s))).size ≤ s.size; rw [hsz]; exact hw⟩
        refine ⟨?_, fun i hi => ?_⟩
        · show 0 < (upS (s.extract 0 (wordN s))).size
          rw [hsz]
          unfold wordN
          obtain ⟨d, hd⟩ : ∃ d, s.size = d + 1 := ⟨s.size - 1, by omega⟩
          rw [hd, cp_runN, if_pos (by omega), if_pos (by rw [show ((0 : Nat) : Int) = 0 from rfl, h3]; rfl)]
          have := (runN_le wordP s d (0 + 1) (by omega)).2
          omega
        · change i < (upS (s.extract 0 (wordN s))).size at hi
          rw [hsz] at hi
          show (65 ≤ (bu (upS (s.extract 0 (wordN s))) i).toNat ∧ _) ∨ _
          rw [bu_up _ _ (by rw [part_size s _ hw]; exact hi), bu_part _ _ _ hi]
          have hk := runN_all wordP s s.size 0 i (Nat.zero_le _) hi
          unfold wordP at hk
          rw [Bool.or_eq_true, beq_iff_eq, beq_iff_eq] at hk
          rcases hk with hk | hk
          · exact .inl (up_byte _ (let_byte s i hk))
          · have hb := num_byte s i hk
            refine .inr ⟨?_, by rw [up_num _ hb]; exact hb⟩
            by_cases hi0 : i = 0
            · subst hi0; exact absurd (hk.symm.trans h3) (by decide)
            · omega
      · rw [if_neg h3]
        by_cases h5 : kindOf (bt s 0) = 5
        · rw [if_pos h5]
          refine ⟨fun h => (by cases h), fun h => (by cases h), ?_⟩
          show (s.extract 0 (signsV s)).size ≤ s.size
          rw [ByteArray.size_extract]; omega
        · rw [if_neg h5]; exact ⟨fun h => (by cases h), fun h => (by cases h), Nat.zero_le _⟩
theorem cutL_ok (L : Nat) : ∀ (d : Nat) (l : List UInt8) (n : Nat) (ts : List LTok) (p e : Int), l.length ≤ L → cutL d l n = (ts, p, e) → 0 ≤ p ∧ (e = 0 ∨ e = 12) ∧ (e = 0 → (∀ t ∈ ts, TokOk L t) ∧ ts.length ≤ l.length) := by
  intro d
  induction d with
  | zero => intro l n ts p e hl h; rw [cutL] at h; cases h; exact ⟨by decide, .inl rfl, fun _ => ⟨fun t ht => (by cases ht), Nat.zero_le _⟩⟩
  | succ d ih =>
    intro l n ts p e hl h
    cases l with
    | nil => rw [cutL_nil] at h; cases h; exact ⟨by decide, .inl rfl, fun _ => ⟨fun t ht => (by cases ht), Nat.zero_le _⟩⟩
    | cons c r =>
      have hlr : r.length + 1 ≤ L := by rw [List.length_cons] at hl; exact hl
      rw [cutL] at h
      by_cases hk : kindOf (c.toNat : Int) = 1
      · rw [if_pos hk] at h
        obtain ⟨h1, h2, h3⟩ := ih r (n + 1) ts p e (by omega) h
        exact ⟨h1, h2, fun he => ⟨(h3 he).1, by rw [List.length_cons]; have := (h3 he).2; omega⟩⟩
      · rw [if_neg hk] at h
        obtain ⟨w, hw, hwl⟩ := one_w c r
        obtain ⟨o1, o2, o3⟩ := one_ok ⟨(c :: r).toArray⟩ (by rw [cp_len, List.length_cons]; omega)
        have o3 : (oneV ⟨(c :: r).toArray⟩).2.2.1.size ≤ r.length + 1 := o3
        generalize oneV ⟨(c :: r).toArray⟩ = t at *
        obtain ⟨ta, tb, tc, td, tm⟩ := t
        have hw' : tm = (w : Int) := hw
        subst hw'
        dsimp only at h o1 o2 o3
        by_cases hz : (w : Int) = 0
        · rw [if_pos hz] at h; cases h; exact ⟨by omega, .inr rfl, fun he => (by cases he)⟩
        · rw [if_neg hz, Int.toNat_natCast] at h
          cases e2 : cutL d (List.drop w (c :: r)) (n + w) with
          | mk ts2 x =>
            obtain ⟨p2, f2⟩ := x
            have hdl : (List.drop w (c :: r)).length = r.length + 1 - w := by rw [List.length_drop, List.length_cons]
            obtain ⟨h1, h2, h3⟩ := ih _ _ _ _ _ (by omega) e2
            rw [e2] at h
            dsimp only at h
            by_cases he : f2 = 0
            · rw [if_pos he] at h
              cases h
              refine ⟨h1, h2, fun _ => ⟨fun t ht => ?_, ?_⟩⟩
              · rcases List.mem_cons.1 ht with rfl | ht
                · exact ⟨o1, o2, by show tc.size ≤ L; omega, by show (0 : Int) ≤ (n : Int); omega⟩
                · exact (h3 he).1 t ht
              · have := (h3 he).2
                rw [List.length_cons, List.length_cons]; omega
            · rw [if_neg he] at h; cases h; exact ⟨h1, h2, fun h => absurd h he⟩
theorem parse_cut (s : ByteArray) (hs : s.size ≤ 300) (k : Nat) (hk : 900 ≤ k) (ts : List LTok) (p e : Int) (h : cutL s.size s.data.toList 0 = (ts, p, e)) :
    tree_Parse.f k s = if e ≠ 0 then some (badR p e) else tokR k ts (s.size : Int) := by
  have hl := xt_len s
  obtain ⟨h1, h2, h3⟩ := cutL_ok 300 _ _ _ _ _ _ (by omega) h
  unfold tree_Parse.f
  rw [if_pos (by omega), cut_list s hs k (by omega), h]
  unfold cutR
  by_cases he : e = 0
  · subst he
    obtain ⟨g1, g2⟩ := h3 rfl
    dsimp only
    rw [if_pos rfl]
    dsimp only
    rw [if_neg (show ¬ ((0 : Int) ≠ 0) from fun h => h rfl), if_neg (show ¬ ((0 : Int) ≠ 0) from fun h => h rfl), if_pos]
    refine ⟨by omega, ?_⟩
    rw [List.all_eq_true]
    intro t ht
    exact decide_eq_true (by have := (g1 t ht).size; omega)
  · dsimp only
    rw [if_neg he]
    dsimp only
    rw [if_pos he, if_pos he]
end Go.Proofs.YtpcnaoipenclnaaGreatDoor.P

namespace Go.Proofs.YtpcnaoipenclnaaGreatDoor.P
open Go.RowKit Go.Proofs.YtpcnaoipenclnaaGreatDoorW.PrintWords Go.Proofs.YtpcnaoipenclnaaGreatDoorW.PrintLast Go.Proofs.YtpcnaoipenclnaaGreatDoorW.PrintMore
open M (I64)
set_option linter.unusedVariables false
set_option linter.unusedSimpArgs false
set_option maxRecDepth 100000
abbrev dgB (a : Fin 10) : UInt8 := UInt8.ofNat (48 + a.val)
theorem dg_kind : ∀ a : Fin 10, kindOf (((dgB a).toNat : Nat) : Int) = 2 := by decide +kernel
theorem dg_val : ∀ a : Fin 10, pI ⟨#[dgB a]⟩ = ((a.val : Int), true) := by decide +kernel
theorem lf_bt (l : List UInt8) (i : Nat) : bt ⟨l.toArray⟩ (i : Int) = (((l.getD i 0).toNat : Nat) : Int) := by rw [bt_bu]; rfl
theorem lf_ext (l m : List UInt8) : (⟨(l ++ m).toArray⟩ : ByteArray).extract 0 l.length = ⟨l.toArray⟩ := by
  apply ByteArray.ext
  apply Array.toList_inj.1
  rw [cp_rest, List.drop_zero, Nat.sub_zero]
  show (l ++ m).take l.length = l
  rw [List.take_left']; rfl
theorem one_dg (a : Fin 10) (r : List UInt8) (hr : ∀ c l, r = c :: l → kindOf ((c.toNat : Nat) : Int) ≠ 2) : oneV ⟨(dgB a :: r).toArray⟩ = (1, (a.val : Int), ⟨#[]⟩, 0, 1) := by
  have hk : kindOf (bt ⟨(dgB a :: r).toArray⟩ 0) = 2 := by
    have := lf_bt (dgB a :: r) 0
    rw [show ((0 : Nat) : Int) = 0 from rfl] at this
    rw [this]; exact dg_kind a
  have hn : digN ⟨(dgB a :: r).toArray⟩ = 1 := by
    unfold digN
    rw [cp_len, List.length_cons, cp_runN, if_pos (by rw [cp_len, List.length_cons]; omega), if_pos (by rw [show ((0 : Nat) : Int) = 0 from rfl, hk]; rfl)]
    cases r with
    | nil => rfl
    | cons c l =>
      rw [List.length_cons, cp_runN, if_pos (by rw [cp_len, List.length_cons, List.length_cons]; omega), if_neg]
      rw [lf_bt]
      have h2 := hr c l rfl
      show ¬ digP (kindOf ((((dgB a :: c :: l).getD (0 + 1) 0).toNat : Nat) : Int)) = true
      intro h
      exact h2 (by simpa [digP] using h)
  have he : (⟨(dgB a :: r).toArray⟩ : ByteArray).extract 0 1 = ⟨#[dgB a]⟩ := lf_ext [dgB a] r
  unfold oneV
  rw [if_pos hk, hn, he, dg_val, if_pos rfl]
  rfl
theorem one_sg (s : List UInt8) (hs : s ∈ ([[61], [60, 62], [60], [60, 61], [62], [62, 61], [43], [45], [38], [42], [47], [37], [94]] : List (List UInt8))) (b : Fin 10) (r : List UInt8) : oneV ⟨(s ++ (dgB b :: r)).toArray⟩ = (4, 0, ⟨s.toArray⟩, 0, (s.length : Int)) := by
  have hb : ∀ b : Fin 10, ¬ dgB b = 62 ∧ ¬ dgB b = 61 := by decide
  have key : ∀ (s : List UInt8) (c : UInt8) (l : List UInt8), s = c :: l → kindOf ((c.toNat : Nat) : Int) = 5 → signsV ⟨(s ++ (dgB b :: r)).toArray⟩ = s.length → oneV ⟨(s ++ (dgB b :: r)).toArray⟩ = (4, 0, ⟨s.toArray⟩, 0, (s.length : Int)) := by
    intro s c l e hk hsv
    have hk' : kindOf (bt ⟨(s ++ (dgB b :: r)).toArray⟩ 0) = 5 := by
      have := lf_bt (s ++ (dgB b :: r)) 0
      rw [show ((0 : Nat) : Int) = 0 from rfl] at this
      rw [this, e]; exact hk
    unfold oneV
    rw [hk', if_neg (by decide), if_neg (by decide), if_neg (by decide), if_pos rfl, hsv, lf_ext]
  have two : ∀ (c d : UInt8) (l : List UInt8), ((⟨(c :: d :: l).toArray⟩ : ByteArray).extract 0 2).toList = [c, d] := fun c d l => by
    rw [cp_two _ (by rw [cp_len, List.length_cons, List.length_cons]; omega)]; rfl
  have sv : ∀ (c d : UInt8) (l : List UInt8), signsV ⟨(c :: d :: l).toArray⟩ = if [c, d] = ([60, 62] : List UInt8) then 2 else if [c, d] = ([60, 61] : List UInt8) then 2 else if [c, d] = ([62, 61] : List UInt8) then 2 else 1 := fun c d l => by
    unfold signsV
    rw [if_pos (by rw [cp_len, List.length_cons, List.length_cons]; omega), two]
  have h1 := (hb b).1
  have h2 := (hb b).2
  simp only [List.mem_cons, List.not_mem_nil, or_false] at hs
  have one : ∀ c : UInt8, signsV ⟨([c] ++ (dgB b :: r)).toArray⟩ = ([c] : List UInt8).length := fun c => by
    show signsV ⟨(c :: dgB b :: r).toArray⟩ = 1
    rw [sv]
    clear key sv two hs
    generalize dgB b = d at h1 h2 ⊢
    rw [if_neg (by intro h; cases h; exact h1 rfl), if_neg (by intro h; cases h; exact h2 rfl), if_neg (by intro h; cases h; exact h2 rfl)]
  rcases hs with rfl | rfl | rfl | rfl | rfl | rfl | rfl | rfl | rfl | rfl | rfl | rfl | rfl
  · exact key _ _ _ rfl (by decide +kernel) (one _)
  · exact key _ _ _ rfl (by decide +kernel) (sv _ _ _)
  · exact key _ _ _ rfl (by decide +kernel) (one _)
  · exact key _ _ _ rfl (by decide +kernel) (sv _ _ _)
  · exact key _ _ _ rfl (by decide +kernel) (one _)
  · exact key _ _ _ rfl (by decide +kernel) (sv _ _ _)
  · exact key _ _ _ rfl (by decide +kernel) (one _)
  · exact key _ _ _ rfl (by decide +kernel) (one _)
  · exact key _ _ _ rfl (by decide +kernel) (one _)
  · exact key _ _ _ rfl (by decide +kernel) (one _)
  · exact key _ _ _ rfl (by decide +kernel) (one _)
  · exact key _ _ _ rfl (by decide +kernel) (one _)
  · exact key _ _ _ rfl (by decide +kernel) (one _)
theorem lf_cons (d : Nat) (l r : List UInt8) (n w : Nat) (c : UInt8) (m : List UInt8) (hl : l = c :: m) (hk : kindOf ((c.toNat : Nat) : Int) ≠ 1) (ta tb : Int) (tc : ByteArray) (ho : oneV ⟨l.toArray⟩ = (ta, tb, tc, 0, (w : Int))) (hw : w ≠ 0) (hr : l.drop w = r) (ts : List LTok) (h : cutL d r (n + w) = (ts, 0, 0)) :
    cutL (d + 1) l n = (⟨ta, tb, tc, (n : Int)⟩ :: ts, 0, 0) := by
  subst hl
  rw [cutL, if_neg hk, ho]
  dsimp only
  rw [if_neg (by omega), Int.toNat_natCast, hr, h]
  rfl
def sgL : List (List UInt8) := [[61], [60, 62], [60], [60, 61], [62], [62, 61], [43], [45], [38], [42], [47], [37], [94]]
theorem sg_len : ∀ s ∈ sgL, 1 ≤ s.length ∧ s.length ≤ 2 := by decide
theorem sg_head : ∀ s ∈ sgL, ∃ c m, s = c :: m ∧ kindOf ((c.toNat : Nat) : Int) ≠ 1 ∧ kindOf ((c.toNat : Nat) : Int) ≠ 2 := by
  intro s hs
  have : ∀ s ∈ sgL, kindOf ((((s.getD 0 0).toNat : Nat) : Int)) = 5 ∧ s ≠ [] := by decide +kernel
  obtain ⟨h1, h2⟩ := this s hs
  cases s with
  | nil => exact absurd rfl h2
  | cons c m =>
    have h1 : kindOf ((c.toNat : Nat) : Int) = 5 := h1
    exact ⟨c, m, rfl, by rw [h1]; decide, by rw [h1]; decide⟩
def lfTok (a b c : Int) (sx sy : ByteArray) (p1 p2 p3 p4 : Int) : List LTok := [⟨1, a, ⟨#[]⟩, 0⟩, ⟨4, 0, sx, p1⟩, ⟨1, b, ⟨#[]⟩, p2⟩, ⟨4, 0, sy, p3⟩, ⟨1, c, ⟨#[]⟩, p4⟩]
theorem left_cut (a b c : Fin 10) (s u : List UInt8) (hs : s ∈ sgL) (hu : u ∈ sgL) : ∃ p1 p2 p3 p4 : Int, 0 ≤ p3 ∧ cutL (dgB a :: (s ++ (dgB b :: (u ++ [dgB c])))).length (dgB a :: (s ++ (dgB b :: (u ++ [dgB c])))) 0 = (lfTok a.val b.val c.val ⟨s.toArray⟩ ⟨u.toArray⟩ p1 p2 p3 p4, 0, 0) := by
  obtain ⟨l1, l2⟩ := sg_len s hs
  obtain ⟨m1, m2⟩ := sg_len u hu
  obtain ⟨cs, ms, es, k1, k2⟩ := sg_head s hs
  obtain ⟨cu, mu, eu, j1, j2⟩ := sg_head u hu
  have dk : ∀ a : Fin 10, kindOf (((dgB a).toNat : Nat) : Int) ≠ 1 := fun a => by rw [dg_kind]; decide
  have hlen : (dgB a :: (s ++ (dgB b :: (u ++ [dgB c])))).length = (s.length + u.length - 2) + 1 + 1 + 1 + 1 + 1 := by
    simp only [List.length_cons, List.length_append, List.length_nil]; omega
  rw [hlen]
  refine ⟨((0 + 1 : Nat) : Int), ((0 + 1 + s.length : Nat) : Int), ((0 + 1 + s.length + 1 : Nat) : Int), ((0 + 1 + s.length + 1 + u.length : Nat) : Int), by omega, ?_⟩
  · skip
    refine lf_cons _ _ (s ++ (dgB b :: (u ++ [dgB c]))) 0 1 _ _ rfl (dk a) _ _ _ (one_dg a _ (fun c' l' e => ?_)) (by decide) rfl _ ?_
    · rw [es, List.cons_append] at e; cases e; exact k2
    refine lf_cons _ _ (dgB b :: (u ++ [dgB c])) _ s.length cs (ms ++ (dgB b :: (u ++ [dgB c]))) (by rw [es, List.cons_append]) k1 _ _ _ (one_sg s hs b _) (by omega) (by rw [List.drop_left']; rfl) _ ?_
    refine lf_cons _ _ (u ++ [dgB c]) _ 1 _ _ rfl (dk b) _ _ _ (one_dg b _ (fun c' l' e => ?_)) (by decide) rfl _ ?_
    · rw [eu, List.cons_append] at e; cases e; exact j2
    refine lf_cons _ _ [dgB c] _ u.length cu (mu ++ [dgB c]) (by rw [eu, List.cons_append]) j1 _ _ _ (one_sg u hu c []) (by omega) (by rw [List.drop_left']; rfl) _ ?_
    refine lf_cons _ _ [] _ 1 _ _ rfl (dk c) _ _ _ (one_dg c [] (fun c' l' e => by cases e)) (by decide) rfl _ ?_
    exact cutL_nil _ _
def rwL : List Int := [1, 1, 1, 1, 1, 1, 2, 2, 2, 3, 3, 3, 4]
def baL : List ByteArray := [⟨#[61]⟩, ⟨#[60, 62]⟩, ⟨#[60]⟩, ⟨#[60, 61]⟩, ⟨#[62]⟩, ⟨#[62, 61]⟩, ⟨#[43]⟩, ⟨#[45]⟩, ⟨#[38]⟩, ⟨#[42]⟩, ⟨#[47]⟩, ⟨#[37]⟩, ⟨#[94]⟩]
def ciT (a : Int) : TN := constT ⟨2, a, ⟨#[]⟩⟩
def lfB (rx ry : Int) : Bool := decide (ry < rx) || (decide (rx = ry) && !decide (rx = 4))
def lfX (sx sy : ByteArray) (rx ry : Int) (a b c : Int) : PR × Nat :=
  if rx = 1 ∧ ry = 1 then (.ok (twoT sx (ciT a) (ciT b)), 3) else if lfB rx ry = true then (.ok (twoT sy (twoT sx (ciT a) (ciT b)) (ciT c)), 5) else (.ok (twoT sx (ciT a) (twoT sy (ciT b) (ciT c))), 5)
def lfAll (F : ByteArray → ByteArray → Int → Int → PR × Nat) : List (List (PR × Nat)) := (baL.zip rwL).map fun x => (baL.zip rwL).map fun y => F x.1 y.1 x.2 y.2
theorem left_forms (a b c p1 p2 p3 p4 en : Int) : lfAll (fun sx sy rx ry => (lv (lfTok a b c sx sy p1 p2 p3 p4) en 41).form 0) = lfAll (fun sx sy rx ry => lfX sx sy rx ry a b c) := by kernel_rfl
theorem left_form (a b c p1 p2 p3 p4 en : Int) (x y : Nat) (sx sy : ByteArray) (rx ry : Int) (hx : (baL.zip rwL)[x]? = some (sx, rx)) (hy : (baL.zip rwL)[y]? = some (sy, ry)) : (lv (lfTok a b c sx sy p1 p2 p3 p4) en 41).form 0 = lfX sx sy rx ry a b c := by
  have h := congrArg (fun L => (L[x]?).bind fun l => l[y]?) (left_forms a b c p1 p2 p3 p4 en)
  unfold lfAll at h
  simp only [List.getElem?_map, hx, hy, Option.map_some, Option.bind_some, Option.some.injEq] at h
  exact h
theorem left_depB (s u : ByteArray) (a b c : Int) : depO 20 (twoT u (twoT s (ciT a) (ciT b)) (ciT c)) = some 3 := by kernel_rfl
theorem left_depC (s u : ByteArray) (a b c : Int) : depO 20 (twoT s (ciT a) (twoT u (ciT b) (ciT c))) = some 3 := by kernel_rfl
theorem lf_digit (n : Int) (h : 0 ≤ n ∧ n ≤ 255) : ∃ a : Fin 10, strOfNums [(48 + Int.tmod n 10) % 256] = ⟨#[dgB a]⟩ := by
  refine ⟨⟨n.toNat % 10, Nat.mod_lt _ (by decide)⟩, ?_⟩
  rw [Int.tmod_eq_emod_of_nonneg h.1]
  have h3 : (48 + n % 10) % 256 = ((48 + n.toNat % 10 : Nat) : Int) := by omega
  rw [h3, strOfNums_one _ (by omega) (by omega)]
  rfl
theorem lf_app (l m : List UInt8) : (⟨l.toArray⟩ : ByteArray) ++ ⟨m.toArray⟩ = ⟨(l ++ m).toArray⟩ := by
  apply ByteArray.ext
  rw [ByteArray.data_append, List.append_toArray]
theorem ba_sg : ∀ s ∈ baL, s.data.toList ∈ sgL := by decide
theorem lfTok_len (a b c : Int) (sx sy : ByteArray) (p1 p2 p3 p4 : Int) : (lfTok a b c sx sy p1 p2 p3 p4).length = 5 := rfl
theorem left_parse (a b c : Fin 10) (x y : Nat) (sx sy : ByteArray) (rx ry : Int) (hx : (baL.zip rwL)[x]? = some (sx, rx)) (hy : (baL.zip rwL)[y]? = some (sy, ry)) :
    ∃ R, tree_Parse.f 1000 (((((⟨#[dgB a]⟩ : ByteArray) ++ sx) ++ ⟨#[dgB b]⟩) ++ sy) ++ ⟨#[dgB c]⟩) = some R ∧
      ((rx = 1 ∧ ry = 1 ∧ ∃ p, R = badR p 13) ∨ (¬ (rx = 1 ∧ ry = 1) ∧ lfB rx ry = true ∧ R = nodeR (twoT sy (twoT sx (ciT a.val) (ciT b.val)) (ciT c.val)) 0 0) ∨ (¬ (rx = 1 ∧ ry = 1) ∧ lfB rx ry = false ∧ R = nodeR (twoT sx (ciT a.val) (twoT sy (ciT b.val) (ciT c.val))) 0 0)) := by
  have mx : sx ∈ baL := (List.of_mem_zip (List.mem_of_getElem? hx)).1
  have my : sy ∈ baL := (List.of_mem_zip (List.mem_of_getElem? hy)).1
  have gx := ba_sg sx mx
  have gy := ba_sg sy my
  obtain ⟨p1, p2, p3, p4, hp3, hcut⟩ := left_cut a b c _ _ gx gy
  have hs : (((((⟨#[dgB a]⟩ : ByteArray) ++ sx) ++ ⟨#[dgB b]⟩) ++ sy) ++ ⟨#[dgB c]⟩) = ⟨(dgB a :: (sx.data.toList ++ (dgB b :: (sy.data.toList ++ [dgB c])))).toArray⟩ := by
    have e1 : sx = ⟨sx.data.toList.toArray⟩ := rfl
    have e2 : sy = ⟨sy.data.toList.toArray⟩ := rfl
    rw [e1, e2, show (⟨#[dgB a]⟩ : ByteArray) = ⟨([dgB a] : List UInt8).toArray⟩ from rfl, show (⟨#[dgB b]⟩ : ByteArray) = ⟨([dgB b] : List UInt8).toArray⟩ from rfl, show (⟨#[dgB c]⟩ : ByteArray) = ⟨([dgB c] : List UInt8).toArray⟩ from rfl, lf_app, lf_app, lf_app, lf_app]
    simp only [List.append_assoc, List.cons_append, List.nil_append]
  have hf := left_form a.val b.val c.val p1 p2 p3 p4 ((dgB a :: (sx.data.toList ++ (dgB b :: (sy.data.toList ++ [dgB c])))).length : Int) x y sx sy rx ry hx hy
  rw [hs]
  have hl := sg_len _ gx
  have hm := sg_len _ gy
  have hsz : (⟨(dgB a :: (sx.data.toList ++ (dgB b :: (sy.data.toList ++ [dgB c])))).toArray⟩ : ByteArray).size ≤ 300 := by
    show (dgB a :: (sx.data.toList ++ (dgB b :: (sy.data.toList ++ [dgB c])))).length ≤ 300
    simp only [List.length_cons, List.length_append, List.length_nil]; omega
  have hP := parse_cut ⟨(dgB a :: (sx.data.toList ++ (dgB b :: (sy.data.toList ++ [dgB c])))).toArray⟩ hsz 1000 (by decide) _ 0 0 hcut
  rw [if_neg (by decide)] at hP
  rw [hP]
  unfold tokR
  have hf' : (lv (lfTok a.val b.val c.val ⟨sx.data.toList.toArray⟩ ⟨sy.data.toList.toArray⟩ p1 p2 p3 p4) ((⟨(dgB a :: (sx.data.toList ++ (dgB b :: (sy.data.toList ++ [dgB c])))).toArray⟩ : ByteArray).size : Int) 41).form 0 = lfX sx sy rx ry a.val b.val c.val := hf
  rw [hf']
  unfold lfX
  by_cases h1 : rx = 1 ∧ ry = 1
  · rw [if_pos h1]
    dsimp only
    rw [lfTok_len, if_pos (show 3 < 5 by decide)]
    exact ⟨_, rfl, .inl ⟨h1.1, h1.2, _, rfl⟩⟩
  · rw [if_neg h1]
    by_cases h2 : lfB rx ry = true
    · rw [if_pos h2]
      dsimp only
      rw [lfTok_len, if_neg (show ¬ 5 < 5 by decide), depO_any (show 20 ≤ 1000 by decide) (left_depB sx sy _ _ _)]
      exact ⟨_, rfl, .inr (.inl ⟨h1, h2, rfl⟩)⟩
    · rw [if_neg h2]
      dsimp only
      rw [lfTok_len, if_neg (show ¬ 5 < 5 by decide), depO_any (show 20 ≤ 1000 by decide) (left_depC sx sy _ _ _)]
      exact ⟨_, rfl, .inr (.inr ⟨h1, by simpa using h2, rfl⟩)⟩
end Go.Proofs.YtpcnaoipenclnaaGreatDoor.P

namespace Go.Proofs.YtpcnaoipenclnaaGreatDoor.P
open Go.RowKit Go.Proofs.YtpcnaoipenclnaaGreatDoorW.PrintWords Go.Proofs.YtpcnaoipenclnaaGreatDoorW.PrintLast Go.Proofs.YtpcnaoipenclnaaGreatDoorW.PrintMore
open M (I64)
set_option linter.unusedVariables false
set_option maxRecDepth 100000
theorem rw_bound : ∀ r ∈ rwL, 1 ≤ r ∧ r ≤ 4 := by decide
theorem ba_size : ∀ s ∈ baL, s.size ≤ 2 := by decide
theorem left_pick (x : Nat) (h : x < 13) : ∃ sx rx, (baL.zip rwL)[x]? = some (sx, rx) ∧ lfS[x]? = some sx ∧ lfR[x]? = some rx ∧ sx.size ≤ 2 ∧ 1 ≤ rx ∧ rx ≤ 4 := by
  have hl : x < (baL.zip rwL).length := h
  obtain ⟨z, hz⟩ : ∃ z, (baL.zip rwL)[x]? = some z := ⟨_, List.getElem?_eq_getElem hl⟩
  obtain ⟨sx, rx⟩ := z
  have hm := List.of_mem_zip (List.mem_of_getElem? hz)
  have h2 := List.getElem?_zip_eq_some.1 hz
  have hr := rw_bound rx hm.2
  exact ⟨sx, rx, hz, h2.1, h2.2, ba_size sx hm.1, hr.1, hr.2⟩
theorem left_all (k0 k1 n0 n1 n2 : Int) (w : World) (hG : G4 w) (b0 : 0 ≤ k0 ∧ k0 ≤ 255) (b1 : 0 ≤ k1 ∧ k1 ≤ 255) (d0 : 0 ≤ n0 ∧ n0 ≤ 255) (d1 : 0 ≤ n1 ∧ n1 ≤ 255) (d2 : 0 ≤ n2 ∧ n2 ≤ 255) :
    Calls Tryz.prog 4 #[.agg #[.int .u8 k0, .int .u8 k1], .agg #[.int .u8 n0, .int .u8 n1, .int .u8 n2]] w fun e w' => e = .returned (.bool true) ∧ Below w.heap.size w w' := by
  have hx : Int.tmod k0 13 = ((k0.toNat % 13 : Nat) : Int) := by rw [Int.tmod_eq_emod_of_nonneg b0.1]; omega
  have hy : Int.tmod k1 13 = ((k1.toNat % 13 : Nat) : Int) := by rw [Int.tmod_eq_emod_of_nonneg b1.1]; omega
  have hxl := Nat.mod_lt k0.toNat (show 0 < 13 by decide)
  have hyl := Nat.mod_lt k1.toNat (show 0 < 13 by decide)
  obtain ⟨sx, rx, zx, hsx, hrx, lx, rx1, rx4⟩ := left_pick _ hxl
  obtain ⟨sy, ry, zy, hsy, hry, ly, ry1, ry4⟩ := left_pick _ hyl
  obtain ⟨a, ea⟩ := lf_digit n0 d0
  obtain ⟨b, eb⟩ := lf_digit n1 d1
  obtain ⟨c, ec⟩ := lf_digit n2 d2
  have ea : lfD n0 = ⟨#[dgB a]⟩ := ea
  have eb : lfD n1 = ⟨#[dgB b]⟩ := eb
  have ec : lfD n2 = ⟨#[dgB c]⟩ := ec
  have sa : (lfD n0).size = 1 := by rw [ea]; rfl
  have sb : (lfD n1).size = 1 := by rw [eb]; rfl
  have sc : (lfD n2).size = 1 := by rw [ec]; rfl
  obtain ⟨R, hR, hcase⟩ := left_parse a b c _ _ sx sy rx ry zx zy
  rw [← ea, ← eb, ← ec] at hR
  rcases hcase with ⟨h1, h2, p, rfl⟩ | ⟨h1, h2, rfl⟩ | ⟨h1, h2, rfl⟩
  · exact left_walk_A k0 k1 n0 n1 n2 w hG b0 b1 _ _ hx hy hxl hyl sx sy rx ry hsx hsy hrx hry sa sb sc lx ly 1000 0 0 0 ⟨#[]⟩ 0 0 0 0 ⟨#[]⟩ [] p 13 hR ⟨h1, h2, rfl⟩
  · refine left_walk_B k0 k1 n0 n1 n2 w hG b0 b1 _ _ hx hy hxl hyl sx sy rx ry hsx hsy hrx hry sa sb sc lx ly 1000 5 0 0 ⟨#[]⟩ 0 0 0 0 sy [twoT sx (ciT a.val) (ciT b.val), ciT c.val] 0 0 hR ⟨_, _, rfl, rfl, rfl, rfl, rfl, ?_, ?_⟩
    · unfold lfB at h2
      simp only [Bool.or_eq_true, Bool.and_eq_true, Bool.not_eq_true', decide_eq_true_eq, decide_eq_false_iff_not] at h2
      omega
    · unfold lfB at h2
      simp only [Bool.or_eq_true, Bool.and_eq_true, Bool.not_eq_true', decide_eq_true_eq, decide_eq_false_iff_not] at h2
      omega
  · refine left_walk_C k0 k1 n0 n1 n2 w hG b0 b1 _ _ hx hy hxl hyl sx sy rx ry hsx hsy hrx hry sa sb sc lx ly 1000 5 0 0 ⟨#[]⟩ 0 0 0 0 sx [ciT a.val, twoT sy (ciT b.val) (ciT c.val)] 0 0 hR ⟨_, _, rfl, rfl, rfl, rfl, rfl, ?_⟩
    unfold lfB at h2
    simp only [Bool.or_eq_false_iff, Bool.and_eq_false_imp, Bool.not_eq_false', decide_eq_true_eq, decide_eq_false_iff_not] at h2
    omega
theorem pannierlaw05_TreeLeft.calls (k : Nat) (l m : List Int) (r : Bool) (w : World) (hG : G4 w) (h : pannierlaw05_TreeLeft.f k l m = some r) :
    Calls Tryz.prog 4 #[.agg (l.map fun a => Value.int .u8 a).toArray, .agg (m.map fun a => Value.int .u8 a).toArray] w fun e w' => e = .returned (.bool r) ∧ Below w.heap.size w w' := by
  unfold pannierlaw05_TreeLeft.f at h
  split at h
  · rename_i hc
    obtain ⟨hl, hm, hl', hm'⟩ := hc
    obtain rfl := Option.some.inj h
    match l, m, hl, hm with
    | [k0, k1], [n0, n1, n2], _, _ => exact left_all k0 k1 n0 n1 n2 w hG (hl' _ (by simp)) (hl' _ (by simp)) (hm' _ (by simp)) (hm' _ (by simp)) (hm' _ (by simp))
  · cases h
theorem lf_u8 {a : Int} (h : (Lit.int .u8 a).wf = true) : 0 ≤ a ∧ a ≤ 255 := by simp [Lit.wf, IntKind.min, IntKind.max, IntKind.signed, IntKind.bits] at h; omega
theorem TreeLeft_pure (l m : List Int) (hl : l.length = 2) (hw : ∀ a ∈ l, (Lit.int .u8 a).wf = true) (hm : m.length = 3) (hv : ∀ a ∈ m, (Lit.int .u8 a).wf = true) : ∃ k, pannierlaw05_TreeLeft.f k l m = some true :=
  ⟨0, if_pos ⟨hl, hm, fun a ha => lf_u8 (hw a ha), fun a ha => lf_u8 (hv a ha)⟩⟩
end Go.Proofs.YtpcnaoipenclnaaGreatDoor.P
