/- Contracts of the functions that the law reaches, each with the plain function that it comes to, and plain facts about these. -/
import Derived.Test.YtpcnaoipenclnaaGreatDoorBTD2
import Derived.Test.YtpcnaoipenclnaaGreatDoorBTD3
import Derived.Test.YtpcnaoipenclnaaGreatDoorBTD4
import Derived.Test.YtpcnaoipenclnaaGreatDoorBTD5
namespace Go.Proofs.YtpcnaoipenclnaaGreatDoor.P
open Go.RowKit Go.Proofs.YtpcnaoipenclnaaGreatDoorW.PrintWords Go.Proofs.YtpcnaoipenclnaaGreatDoorW.PrintLast Go.Proofs.YtpcnaoipenclnaaGreatDoorW.PrintMore
attribute [local go_sem] max2_int min2_int max_two min_two max_three min_three max_four min_four   -- for this text's walks alone
set_option linter.unusedVariables false
set_option linter.unusedSimpArgs false
def pannierlaw05_wakes.f (k : Nat)  : Option (Bool) := (tree_Parse.f k (⟨#[49, 43, 50, 42, 51]⟩ : ByteArray)).bind fun bt183 => ((tree_Parse.f k (⟨#[45, 50, 94, 50]⟩ : ByteArray)).bind fun bt198 => ((tree_Parse.f k (⟨#[49, 43]⟩ : ByteArray)).bind fun bt213 => (if bt183.2.2.2.2.2.2.2.2.2.2.2 = 0 then (if bt183.2.2.2.2.2.2.2.2.2.2.1 = 0 then (if bt183.1 = 5 then (if bt183.2.2.2.2.2.2.2.2.1.toList = ([43] : List UInt8) then (if (bt183.2.2.2.2.2.2.2.2.2.1.length : Int) = 2 then (if 1 < (bt183.2.2.2.2.2.2.2.2.2.1.length : Int) then (if ((rd_T31 bt183.2.2.2.2.2.2.2.2.2.1 1).f3).toList = ([42] : List UInt8) then (if bt198.2.2.2.2.2.2.2.2.2.2.2 = 0 then (if bt198.2.2.2.2.2.2.2.2.1.toList = ([94] : List UInt8) then (if bt213.2.2.2.2.2.2.2.2.2.2.2 = 13 then (if bt213.2.2.2.2.2.2.2.2.2.2.1 = 2 then ((tree_Good.f k bt183.1 bt183.2.1 bt183.2.2.1 bt183.2.2.2.1 bt183.2.2.2.2.1 bt183.2.2.2.2.2.1 bt183.2.2.2.2.2.2.1 bt183.2.2.2.2.2.2.2.1 bt183.2.2.2.2.2.2.2.2.1 bt183.2.2.2.2.2.2.2.2.2.1).bind fun t229 => (if t229 = true then ((tree_Depth.f k bt183.1 bt183.2.1 bt183.2.2.1 bt183.2.2.2.1 bt183.2.2.2.2.1 bt183.2.2.2.2.2.1 bt183.2.2.2.2.2.2.1 bt183.2.2.2.2.2.2.2.1 bt183.2.2.2.2.2.2.2.2.1 bt183.2.2.2.2.2.2.2.2.2.1).bind fun t230 => (some (t230 == 3))) else (none))) else (none)) else (none)) else (none)) else (none)) else (none)) else (none)) else (none)) else (none)) else (none)) else (none)) else (none))))
theorem pannierlaw05_wakes.mono : ∀ k, LeO (pannierlaw05_wakes.f k ) (pannierlaw05_wakes.f (k + 1) ) := by
  intro  k
  unfold pannierlaw05_wakes.f
  repeat' first
      | (with_reducible exact tree_Depth.mono _ _ _ _ _ _ _ _ _ _ _)
      | (with_reducible exact tree_Good.mono _ _ _ _ _ _ _ _ _ _ _)
      | (with_reducible exact tree_Parse.mono _ _)
      | (with_reducible exact LeO.refl _)
      | (with_reducible exact LeO.none _)
      | (with_reducible refine LeO.ite ?_ ?_)
      | (with_reducible refine LeO.bind ?_ (fun _ => ?_))
      | exact tree_Depth.mono _ _ _ _ _ _ _ _ _ _ _
      | exact tree_Good.mono _ _ _ _ _ _ _ _ _ _ _
      | exact tree_Parse.mono _ _
      | exact LeO.none _
      | refine LeO.ite ?_ ?_
      | refine LeO.bind ?_ (fun _ => ?_)
set_option maxHeartbeats 8000000 in
set_option maxRecDepth 100000 in
theorem pannierlaw05_wakes.calls (k : Nat)  (r : Bool) (w : World) (hG : G4 w) (h : pannierlaw05_wakes.f k  = some r) :
    Calls Tryz.prog 13 #[] w fun e w' => e = .returned (.bool r) ∧ Below w.heap.size w w' := by
  have hu31 := Tryz.underlying31
  have HB := Aside0.mk (Below.refl w.heap.size w)
  have H : ((tree_Parse.f k (⟨#[49, 43, 50, 42, 51]⟩ : ByteArray)).bind fun bt183 => ((tree_Parse.f k (⟨#[45, 50, 94, 50]⟩ : ByteArray)).bind fun bt198 => ((tree_Parse.f k (⟨#[49, 43]⟩ : ByteArray)).bind fun bt213 => (if bt183.2.2.2.2.2.2.2.2.2.2.2 = 0 then (if bt183.2.2.2.2.2.2.2.2.2.2.1 = 0 then (if bt183.1 = 5 then (if bt183.2.2.2.2.2.2.2.2.1.toList = ([43] : List UInt8) then (if (bt183.2.2.2.2.2.2.2.2.2.1.length : Int) = 2 then (if 1 < (bt183.2.2.2.2.2.2.2.2.2.1.length : Int) then (if ((rd_T31 bt183.2.2.2.2.2.2.2.2.2.1 1).f3).toList = ([42] : List UInt8) then (if bt198.2.2.2.2.2.2.2.2.2.2.2 = 0 then (if bt198.2.2.2.2.2.2.2.2.1.toList = ([94] : List UInt8) then (if bt213.2.2.2.2.2.2.2.2.2.2.2 = 13 then (if bt213.2.2.2.2.2.2.2.2.2.2.1 = 2 then ((tree_Good.f k bt183.1 bt183.2.1 bt183.2.2.1 bt183.2.2.2.1 bt183.2.2.2.2.1 bt183.2.2.2.2.2.1 bt183.2.2.2.2.2.2.1 bt183.2.2.2.2.2.2.2.1 bt183.2.2.2.2.2.2.2.2.1 bt183.2.2.2.2.2.2.2.2.2.1).bind fun t229 => (if t229 = true then ((tree_Depth.f k bt183.1 bt183.2.1 bt183.2.2.1 bt183.2.2.2.1 bt183.2.2.2.2.1 bt183.2.2.2.2.2.1 bt183.2.2.2.2.2.2.1 bt183.2.2.2.2.2.2.2.1 bt183.2.2.2.2.2.2.2.2.1 bt183.2.2.2.2.2.2.2.2.2.1).bind fun t230 => (some (t230 == 3))) else (none))) else (none)) else (none)) else (none)) else (none)) else (none)) else (none)) else (none)) else (none)) else (none)) else (none)) else (none))))) = some r := h
  clear h
  replace H := Option.bind_eq_some_iff.mp H
  obtain ⟨⟨t183, t184, t185, t186, t187, t188, t189, t190, t191, t192, t195, t196⟩, A10, H⟩ := H
  replace H : ((tree_Parse.f k (⟨#[45, 50, 94, 50]⟩ : ByteArray)).bind fun bt198 => ((tree_Parse.f k (⟨#[49, 43]⟩ : ByteArray)).bind fun bt213 => (if t196 = 0 then (if t195 = 0 then (if t183 = 5 then (if t191.toList = ([43] : List UInt8) then (if (t192.length : Int) = 2 then (if 1 < (t192.length : Int) then (if ((rd_T31 t192 1).f3).toList = ([42] : List UInt8) then (if bt198.2.2.2.2.2.2.2.2.2.2.2 = 0 then (if bt198.2.2.2.2.2.2.2.2.1.toList = ([94] : List UInt8) then (if bt213.2.2.2.2.2.2.2.2.2.2.2 = 13 then (if bt213.2.2.2.2.2.2.2.2.2.2.1 = 2 then ((tree_Good.f k t183 t184 t185 t186 t187 t188 t189 t190 t191 t192).bind fun t229 => (if t229 = true then ((tree_Depth.f k t183 t184 t185 t186 t187 t188 t189 t190 t191 t192).bind fun t230 => (some (t230 == 3))) else (none))) else (none)) else (none)) else (none)) else (none)) else (none)) else (none)) else (none)) else (none)) else (none)) else (none)) else (none)))) = some r := H
  have A1 := Aside0.mk A10
  clear A10
  replace H := Option.bind_eq_some_iff.mp H
  obtain ⟨⟨t198, t199, t200, t201, t202, t203, t204, t205, t206, t207, t210, t211⟩, A20, H⟩ := H
  replace H : ((tree_Parse.f k (⟨#[49, 43]⟩ : ByteArray)).bind fun bt213 => (if t196 = 0 then (if t195 = 0 then (if t183 = 5 then (if t191.toList = ([43] : List UInt8) then (if (t192.length : Int) = 2 then (if 1 < (t192.length : Int) then (if ((rd_T31 t192 1).f3).toList = ([42] : List UInt8) then (if t211 = 0 then (if t206.toList = ([94] : List UInt8) then (if bt213.2.2.2.2.2.2.2.2.2.2.2 = 13 then (if bt213.2.2.2.2.2.2.2.2.2.2.1 = 2 then ((tree_Good.f k t183 t184 t185 t186 t187 t188 t189 t190 t191 t192).bind fun t229 => (if t229 = true then ((tree_Depth.f k t183 t184 t185 t186 t187 t188 t189 t190 t191 t192).bind fun t230 => (some (t230 == 3))) else (none))) else (none)) else (none)) else (none)) else (none)) else (none)) else (none)) else (none)) else (none)) else (none)) else (none)) else (none))) = some r := H
  have A2 := Aside0.mk A20
  clear A20
  replace H := Option.bind_eq_some_iff.mp H
  obtain ⟨⟨t213, t214, t215, t216, t217, t218, t219, t220, t221, t222, t225, t226⟩, A30, H⟩ := H
  replace H : (if t196 = 0 then (if t195 = 0 then (if t183 = 5 then (if t191.toList = ([43] : List UInt8) then (if (t192.length : Int) = 2 then (if 1 < (t192.length : Int) then (if ((rd_T31 t192 1).f3).toList = ([42] : List UInt8) then (if t211 = 0 then (if t206.toList = ([94] : List UInt8) then (if t226 = 13 then (if t225 = 2 then ((tree_Good.f k t183 t184 t185 t186 t187 t188 t189 t190 t191 t192).bind fun t229 => (if t229 = true then ((tree_Depth.f k t183 t184 t185 t186 t187 t188 t189 t190 t191 t192).bind fun t230 => (some (t230 == 3))) else (none))) else (none)) else (none)) else (none)) else (none)) else (none)) else (none)) else (none)) else (none)) else (none)) else (none)) else (none)) = some r := H
  have A3 := Aside0.mk A30
  clear A30
  by_cases c4 : t196 = 0
  · rw [if_pos c4] at H
    have c4b0 : (t196 == 0) = true := beq_iff_eq.mpr c4
    have c4b1 : (t196 != 0) = false := bne_eq_false_iff_eq.mpr c4
    clear c4
    by_cases c5 : t195 = 0
    · rw [if_pos c5] at H
      have c5b0 : (t195 == 0) = true := beq_iff_eq.mpr c5
      have c5b1 : (t195 != 0) = false := bne_eq_false_iff_eq.mpr c5
      clear c5
      by_cases c6 : t183 = 5
      · rw [if_pos c6] at H
        have c6b0 : (t183 == 5) = true := beq_iff_eq.mpr c6
        have c6b1 : (t183 != 5) = false := bne_eq_false_iff_eq.mpr c6
        clear c6
        by_cases c7 : t191.toList = ([43] : List UInt8)
        · rw [if_pos c7] at H
          have c7b0 : (t191.toList == ([43] : List UInt8)) = true := beq_iff_eq.mpr c7
          have c7b1 : (t191.toList != ([43] : List UInt8)) = false := bne_eq_false_iff_eq.mpr c7
          clear c7
          by_cases c8 : (t192.length : Int) = 2
          · rw [if_pos c8] at H
            have c8b0 : ((t192.length : Int) == 2) = true := beq_iff_eq.mpr c8
            have c8b1 : ((t192.length : Int) != 2) = false := bne_eq_false_iff_eq.mpr c8
            clear c8
            by_cases c9 : 1 < (t192.length : Int)
            · rw [if_pos c9] at H
              have c9b0 : decide (1 < (t192.length : Int)) = true := decide_eq_true c9
              have c9b1 : decide (1 < t192.length) = true := decide_eq_true (by omega)
              clear c9
              by_cases c10 : ((rd_T31 t192 1).f3).toList = ([42] : List UInt8)
              · rw [if_pos c10] at H
                have c10b0 : (((rd_T31 t192 1).f3).toList == ([42] : List UInt8)) = true := beq_iff_eq.mpr c10
                have c10b1 : (((rd_T31 t192 1).f3).toList != ([42] : List UInt8)) = false := bne_eq_false_iff_eq.mpr c10
                clear c10
                by_cases c11 : t211 = 0
                · rw [if_pos c11] at H
                  have c11b0 : (t211 == 0) = true := beq_iff_eq.mpr c11
                  have c11b1 : (t211 != 0) = false := bne_eq_false_iff_eq.mpr c11
                  clear c11
                  by_cases c12 : t206.toList = ([94] : List UInt8)
                  · rw [if_pos c12] at H
                    have c12b0 : (t206.toList == ([94] : List UInt8)) = true := beq_iff_eq.mpr c12
                    have c12b1 : (t206.toList != ([94] : List UInt8)) = false := bne_eq_false_iff_eq.mpr c12
                    clear c12
                    by_cases c13 : t226 = 13
                    · rw [if_pos c13] at H
                      have c13b0 : (t226 == 13) = true := beq_iff_eq.mpr c13
                      have c13b1 : (t226 != 13) = false := bne_eq_false_iff_eq.mpr c13
                      clear c13
                      by_cases c14 : t225 = 2
                      · rw [if_pos c14] at H
                        have c14b0 : (t225 == 2) = true := beq_iff_eq.mpr c14
                        have c14b1 : (t225 != 2) = false := bne_eq_false_iff_eq.mpr c14
                        clear c14
                        replace H := Option.bind_eq_some_iff.mp H
                        obtain ⟨t229, A150, H⟩ := H
                        replace H : (if t229 = true then ((tree_Depth.f k t183 t184 t185 t186 t187 t188 t189 t190 t191 t192).bind fun t230 => (some (t230 == 3))) else (none)) = some r := H
                        have A15 := Aside0.mk A150
                        clear A150
                        by_cases c16 : t229 = true
                        · subst c16
                          have H1 : ((tree_Depth.f k t183 t184 t185 t186 t187 t188 t189 t190 t191 t192).bind fun t230 => (some (t230 == 3))) = some r := by rw [if_pos rfl] at H; exact H
                          clear H
                          have H := H1
                          clear H1
                          replace H := Option.bind_eq_some_iff.mp H
                          obtain ⟨t230, A170, H⟩ := H
                          replace H : (some (t230 == 3)) = some r := H
                          have A17 := Aside0.mk A170
                          clear A170
                          obtain rfl := Option.some.inj H
                          go_enter Tryz.func13, Tryz.ntmps13
                          go_wp2_with (first | ((with_reducible refine gate_callee (f := 14) rfl ?_); refine goesL_ (some 11) rfl rfl Tryz.func14 (by kernel_rfl) rfl #[.string (⟨#[49, 43, 50, 42, 51]⟩ : ByteArray)] rfl (by (try simp only [List.map_toArray, List.map_cons, List.map_nil]); first | done | rfl | (simp only [List.length_drop, List.length_take]; rfl)) ?_; (with_reducible refine (tree_Parse.calls k (⟨#[49, 43, 50, 42, 51]⟩ : ByteArray) t183 t184 t185 t186 t187 t188 t189 t190 t191 t192 t195 t196 _ ?side1 A1.out).mono ?_); (case side1 => exact gl_4_4 (by repeat first | with_reducible exact HB.out | apply zS | exact HB.out) hG); rintro e w18 ⟨v193, rfl, ho0, hb⟩; refine ⟨_, rfl, ?_⟩; have n0_ := Aside0.mk (Kd.V_lower (Kd.V_mono (ok' := fun k_ => True) ho0 (fun k_ hk_ => trivial)) (below_size (by repeat first | with_reducible exact HB.out | apply zS | exact HB.out))); have n1_ := Aside0.mk (below_step (by repeat first | with_reducible exact HB.out | apply zS | exact HB.out) hb); clear HB; have HO194 := n0_; have HB := n1_; clear n0_ n1_; (try clear hb); (try clear hb2); (try clear hk); (try clear hi); (try clear ho0)) | ((with_reducible refine gate_dst (N := 1) rfl ?_); (try (refine gate_guard (by rfl) ?_; dsimp only)); refine box_event ?hg (N := 1) ?hd (cs := #[.int .i64 0, .int .i64 0, .int .i64 0, .string (⟨#[]⟩ : ByteArray), .int .i64 0, .int .i64 0, .int .i64 0, .int .i64 0, .string (⟨#[]⟩ : ByteArray), .slice none 0 0]) (t := 31) ?hr ?_; (case hd => rfl); (case hg => rfl); (case hr => first | (go_simp; done) | (go_simp; rfl)); intro gb197 hg w19 hbox hb; have n0_ := Aside0.mk (Kd.V_below (Kd.V_elderB (by (with_reducible repeat (first | apply Kd.V_alloc | apply Kd.V_drewN | apply Kd.V_drew)); exact HO194.out) gb197 (Nat.le_of_eq hg.symm)) hb); have n1_ := Aside0.mk (below_step (by repeat first | with_reducible exact HB.out | apply zS | exact HB.out) hb); have n2_ := Aside0.mk (hbox); have n3_ := Aside0.mk ((by rw [hg]; exact (below_size (by repeat first | with_reducible exact HB.out | apply zS | exact HB.out)) : w.heap.size ≤ gb197)); have n4_ := n3_; clear HO194; clear HB; have HO194 := n0_; have HB := n1_; have BK197 := n2_; have GW197 := n3_; have GE197 := n4_; clear n0_ n1_ n2_ n3_ n4_; clear hb hbox hg; obtain ⟨hcz20_0, hcz20_1, hcz20_2, hcz20_3, hcz20_4, hcz20_5, hcz20_6, hcz20_7, hcz20_8, hcz20_9, hfz20_0, hfz20_1, hfz20_2, hfz20_3, hfz20_4, hfz20_5, hfz20_6, hfz20_7, hfz20_8, hfz20_9⟩ := zC10 BK197.out; obtain ⟨Ao21, co21, eo21⟩ := Kd.V_slice HO194.out; subst eo21) | ((with_reducible refine gate_callee (f := 14) rfl ?_); refine goesL_ (some 16) rfl rfl Tryz.func14 (by kernel_rfl) rfl #[.string (⟨#[45, 50, 94, 50]⟩ : ByteArray)] rfl (by (try simp only [List.map_toArray, List.map_cons, List.map_nil]); first | done | rfl | (simp only [List.length_drop, List.length_take]; rfl)) ?_; (with_reducible refine (tree_Parse.calls k (⟨#[45, 50, 94, 50]⟩ : ByteArray) t198 t199 t200 t201 t202 t203 t204 t205 t206 t207 t210 t211 _ ?side1 A2.out).mono ?_); (case side1 => exact gl_4_4 (by repeat first | with_reducible exact HB.out | apply zS | refine below_set ?_ GE197.out | exact HB.out) hG); rintro e w22 ⟨v208, rfl, ho0, hb⟩; refine ⟨_, rfl, ?_⟩; have n0_ := Aside0.mk (Kd.V_below (by (with_reducible repeat (first | apply Kd.V_alloc | apply Kd.V_drewN | apply Kd.V_drew)); exact (Kd.V_mono (Kd.V_far (p := ⟨gb197, 9, none⟩) (Kd.V_far (p := ⟨gb197, 8, none⟩) (Kd.V_far (p := ⟨gb197, 7, none⟩) (Kd.V_far (p := ⟨gb197, 6, none⟩) (Kd.V_far (p := ⟨gb197, 5, none⟩) (Kd.V_far (p := ⟨gb197, 4, none⟩) (Kd.V_far (p := ⟨gb197, 3, none⟩) (Kd.V_far (p := ⟨gb197, 2, none⟩) (Kd.V_far (p := ⟨gb197, 1, none⟩) (Kd.V_far (p := ⟨gb197, 0, none⟩) (Kd.V_mono HO194.out (fun k_ hk => (⟨hk, hk.2⟩ : _ ∧ k_ ≠ gb197))) (fun _ hk => hk.2) (.int .i64 t183)) (fun _ hk => hk.2) (.int .i64 t184)) (fun _ hk => hk.2) (.int .i64 t185)) (fun _ hk => hk.2) (.string t186)) (fun _ hk => hk.2) (.int .i64 t187)) (fun _ hk => hk.2) (.int .i64 t188)) (fun _ hk => hk.2) (.int .i64 t189)) (fun _ hk => hk.2) (.int .i64 t190)) (fun _ hk => hk.2) (.string t191)) (fun _ hk => hk.2) (.slice Ao21 t192.length co21)) (fun _ h_ => h_.1))) hb); have n1_ := Aside0.mk (Kd.V_lower (Kd.V_mono (ok' := fun k_ => k_ ≠ gb197) ho0 (fun k_ hk_ => (Kd.freshB (g := gb197) (o := .cells #[.int .i64 t183, .int .i64 t184, .int .i64 t185, .string t186, .int .i64 t187, .int .i64 t188, .int .i64 t189, .int .i64 t190, .string t191, .slice Ao21 t192.length co21] 31 (0, 0)) (by refine zB ?_; refine blk_put (cs := #[.int .i64 t183, .int .i64 t184, .int .i64 t185, .string t186, .int .i64 t187, .int .i64 t188, .int .i64 t189, .int .i64 t190, .string t191, .slice none 0 0]) ?_ 9 _ rfl; refine zB ?_; refine blk_put (cs := #[.int .i64 t183, .int .i64 t184, .int .i64 t185, .string t186, .int .i64 t187, .int .i64 t188, .int .i64 t189, .int .i64 t190, .string (⟨#[]⟩ : ByteArray), .slice none 0 0]) ?_ 8 _ rfl; refine zB ?_; refine blk_put (cs := #[.int .i64 t183, .int .i64 t184, .int .i64 t185, .string t186, .int .i64 t187, .int .i64 t188, .int .i64 t189, .int .i64 0, .string (⟨#[]⟩ : ByteArray), .slice none 0 0]) ?_ 7 _ rfl; refine zB ?_; refine blk_put (cs := #[.int .i64 t183, .int .i64 t184, .int .i64 t185, .string t186, .int .i64 t187, .int .i64 t188, .int .i64 0, .int .i64 0, .string (⟨#[]⟩ : ByteArray), .slice none 0 0]) ?_ 6 _ rfl; refine zB ?_; refine blk_put (cs := #[.int .i64 t183, .int .i64 t184, .int .i64 t185, .string t186, .int .i64 t187, .int .i64 0, .int .i64 0, .int .i64 0, .string (⟨#[]⟩ : ByteArray), .slice none 0 0]) ?_ 5 _ rfl; refine zB ?_; refine blk_put (cs := #[.int .i64 t183, .int .i64 t184, .int .i64 t185, .string t186, .int .i64 0, .int .i64 0, .int .i64 0, .int .i64 0, .string (⟨#[]⟩ : ByteArray), .slice none 0 0]) ?_ 4 _ rfl; refine zB ?_; refine blk_put (cs := #[.int .i64 t183, .int .i64 t184, .int .i64 t185, .string (⟨#[]⟩ : ByteArray), .int .i64 0, .int .i64 0, .int .i64 0, .int .i64 0, .string (⟨#[]⟩ : ByteArray), .slice none 0 0]) ?_ 3 _ rfl; refine zB ?_; refine blk_put (cs := #[.int .i64 t183, .int .i64 t184, .int .i64 0, .string (⟨#[]⟩ : ByteArray), .int .i64 0, .int .i64 0, .int .i64 0, .int .i64 0, .string (⟨#[]⟩ : ByteArray), .slice none 0 0]) ?_ 2 _ rfl; refine zB ?_; refine blk_put (cs := #[.int .i64 t183, .int .i64 0, .int .i64 0, .string (⟨#[]⟩ : ByteArray), .int .i64 0, .int .i64 0, .int .i64 0, .int .i64 0, .string (⟨#[]⟩ : ByteArray), .slice none 0 0]) ?_ 1 _ rfl; refine zB ?_; refine blk_put (cs := #[.int .i64 0, .int .i64 0, .int .i64 0, .string (⟨#[]⟩ : ByteArray), .int .i64 0, .int .i64 0, .int .i64 0, .int .i64 0, .string (⟨#[]⟩ : ByteArray), .slice none 0 0]) ?_ 0 _ rfl; refine zB ?_; exact BK197.out) k_ hk_))) (below_size (by repeat first | with_reducible exact HB.out | apply zS | refine below_set ?_ GE197.out | exact HB.out))); have n2_ := Aside0.mk (blk_below (g := gb197) (o := .cells #[.int .i64 t183, .int .i64 t184, .int .i64 t185, .string t186, .int .i64 t187, .int .i64 t188, .int .i64 t189, .int .i64 t190, .string t191, .slice Ao21 t192.length co21] 31 (0, 0)) (by refine zB ?_; refine blk_put (cs := #[.int .i64 t183, .int .i64 t184, .int .i64 t185, .string t186, .int .i64 t187, .int .i64 t188, .int .i64 t189, .int .i64 t190, .string t191, .slice none 0 0]) ?_ 9 _ rfl; refine zB ?_; refine blk_put (cs := #[.int .i64 t183, .int .i64 t184, .int .i64 t185, .string t186, .int .i64 t187, .int .i64 t188, .int .i64 t189, .int .i64 t190, .string (⟨#[]⟩ : ByteArray), .slice none 0 0]) ?_ 8 _ rfl; refine zB ?_; refine blk_put (cs := #[.int .i64 t183, .int .i64 t184, .int .i64 t185, .string t186, .int .i64 t187, .int .i64 t188, .int .i64 t189, .int .i64 0, .string (⟨#[]⟩ : ByteArray), .slice none 0 0]) ?_ 7 _ rfl; refine zB ?_; refine blk_put (cs := #[.int .i64 t183, .int .i64 t184, .int .i64 t185, .string t186, .int .i64 t187, .int .i64 t188, .int .i64 0, .int .i64 0, .string (⟨#[]⟩ : ByteArray), .slice none 0 0]) ?_ 6 _ rfl; refine zB ?_; refine blk_put (cs := #[.int .i64 t183, .int .i64 t184, .int .i64 t185, .string t186, .int .i64 t187, .int .i64 0, .int .i64 0, .int .i64 0, .string (⟨#[]⟩ : ByteArray), .slice none 0 0]) ?_ 5 _ rfl; refine zB ?_; refine blk_put (cs := #[.int .i64 t183, .int .i64 t184, .int .i64 t185, .string t186, .int .i64 0, .int .i64 0, .int .i64 0, .int .i64 0, .string (⟨#[]⟩ : ByteArray), .slice none 0 0]) ?_ 4 _ rfl; refine zB ?_; refine blk_put (cs := #[.int .i64 t183, .int .i64 t184, .int .i64 t185, .string (⟨#[]⟩ : ByteArray), .int .i64 0, .int .i64 0, .int .i64 0, .int .i64 0, .string (⟨#[]⟩ : ByteArray), .slice none 0 0]) ?_ 3 _ rfl; refine zB ?_; refine blk_put (cs := #[.int .i64 t183, .int .i64 t184, .int .i64 0, .string (⟨#[]⟩ : ByteArray), .int .i64 0, .int .i64 0, .int .i64 0, .int .i64 0, .string (⟨#[]⟩ : ByteArray), .slice none 0 0]) ?_ 2 _ rfl; refine zB ?_; refine blk_put (cs := #[.int .i64 t183, .int .i64 0, .int .i64 0, .string (⟨#[]⟩ : ByteArray), .int .i64 0, .int .i64 0, .int .i64 0, .int .i64 0, .string (⟨#[]⟩ : ByteArray), .slice none 0 0]) ?_ 1 _ rfl; refine zB ?_; refine blk_put (cs := #[.int .i64 0, .int .i64 0, .int .i64 0, .string (⟨#[]⟩ : ByteArray), .int .i64 0, .int .i64 0, .int .i64 0, .int .i64 0, .string (⟨#[]⟩ : ByteArray), .slice none 0 0]) ?_ 0 _ rfl; refine zB ?_; exact BK197.out) hb); have n3_ := Aside0.mk (below_step (by repeat first | with_reducible exact HB.out | apply zS | refine below_set ?_ GE197.out | exact HB.out) hb); clear HO194; clear BK197; clear HB; have HO194 := n0_; have HO209 := n1_; have BK197 := n2_; have HB := n3_; clear n0_ n1_ n2_ n3_; (try clear hb); (try clear hb2); (try clear hk); (try clear hi); (try clear ho0)) | ((with_reducible refine gate_dst (N := 4) rfl ?_); (try (refine gate_guard (by rfl) ?_; dsimp only)); refine box_event ?hg (N := 4) ?hd (cs := #[.int .i64 0, .int .i64 0, .int .i64 0, .string (⟨#[]⟩ : ByteArray), .int .i64 0, .int .i64 0, .int .i64 0, .int .i64 0, .string (⟨#[]⟩ : ByteArray), .slice none 0 0]) (t := 31) ?hr ?_; (case hd => rfl); (case hg => rfl); (case hr => first | (go_simp; done) | (go_simp; rfl)); intro gb212 hg w23 hbox hb; have n0_ := Aside0.mk (Kd.V_below (Kd.V_elderB (by (with_reducible repeat (first | apply Kd.V_alloc | apply Kd.V_drewN | apply Kd.V_drew)); exact HO194.out) gb212 (Nat.le_of_eq hg.symm)) hb); have n1_ := Aside0.mk (Kd.V_below (Kd.V_elderB (by (with_reducible repeat (first | apply Kd.V_alloc | apply Kd.V_drewN | apply Kd.V_drew)); exact HO209.out) gb212 (Nat.le_of_eq hg.symm)) hb); have n2_ := Aside0.mk (blk_below (g := gb197) (o := .cells #[.int .i64 t183, .int .i64 t184, .int .i64 t185, .string t186, .int .i64 t187, .int .i64 t188, .int .i64 t189, .int .i64 t190, .string t191, .slice Ao21 t192.length co21] 31 (0, 0)) (zB BK197.out) hb); have n3_ := Aside0.mk (below_step (by repeat first | with_reducible exact HB.out | apply zS | refine below_set ?_ GE197.out | exact HB.out) hb); have n4_ := Aside0.mk (hbox); have n5_ := Aside0.mk ((by rw [hg]; exact (below_size (by repeat first | with_reducible exact HB.out | apply zS | refine below_set ?_ GE197.out | exact HB.out)) : w.heap.size ≤ gb212)); have n6_ := n5_; have n7_ := Aside0.mk ((by rw [hg]; exact Nat.ne_of_lt (blk_lt (g := gb197) (o := .cells #[.int .i64 t183, .int .i64 t184, .int .i64 t185, .string t186, .int .i64 t187, .int .i64 t188, .int .i64 t189, .int .i64 t190, .string t191, .slice Ao21 t192.length co21] 31 (0, 0)) (zB BK197.out)) : gb197 ≠ gb212)); have n8_ := Aside0.mk ((by rw [hg]; exact Nat.ne_of_gt (blk_lt (g := gb197) (o := .cells #[.int .i64 t183, .int .i64 t184, .int .i64 t185, .string t186, .int .i64 t187, .int .i64 t188, .int .i64 t189, .int .i64 t190, .string t191, .slice Ao21 t192.length co21] 31 (0, 0)) (zB BK197.out)) : gb212 ≠ gb197)); clear HO194; clear HO209; clear BK197; clear HB; have HO194 := n0_; have HO209 := n1_; have BK197 := n2_; have HB := n3_; have BK212 := n4_; have GW212 := n5_; have GE212 := n6_; have NB197_212 := n7_; have NB212_197 := n8_; clear n0_ n1_ n2_ n3_ n4_ n5_ n6_ n7_ n8_; clear hb hbox hg; have hnb24 := NB212_197.out; have hnc24 := NB197_212.out; obtain ⟨hcz25_0, hcz25_1, hcz25_2, hcz25_3, hcz25_4, hcz25_5, hcz25_6, hcz25_7, hcz25_8, hcz25_9, hfz25_0, hfz25_1, hfz25_2, hfz25_3, hfz25_4, hfz25_5, hfz25_6, hfz25_7, hfz25_8, hfz25_9⟩ := zC10 BK212.out; obtain ⟨Ao26, co26, eo26⟩ := Kd.V_slice HO209.out; subst eo26) | ((with_reducible refine gate_callee (f := 14) rfl ?_); refine goesL_ (some 21) rfl rfl Tryz.func14 (by kernel_rfl) rfl #[.string (⟨#[49, 43]⟩ : ByteArray)] rfl (by (try simp only [List.map_toArray, List.map_cons, List.map_nil]); first | done | rfl | (simp only [List.length_drop, List.length_take]; rfl)) ?_; (with_reducible refine (tree_Parse.calls k (⟨#[49, 43]⟩ : ByteArray) t213 t214 t215 t216 t217 t218 t219 t220 t221 t222 t225 t226 _ ?side1 A3.out).mono ?_); (case side1 => exact gl_4_4 (by repeat first | with_reducible exact HB.out | apply zS | refine below_set ?_ GE197.out | refine below_set ?_ GE212.out | exact HB.out) hG); rintro e w27 ⟨v223, rfl, ho0, hb⟩; refine ⟨_, rfl, ?_⟩; have n0_ := Aside0.mk (Kd.V_below (by (with_reducible repeat (first | apply Kd.V_alloc | apply Kd.V_drewN | apply Kd.V_drew)); exact (Kd.V_mono (Kd.V_far (p := ⟨gb212, 9, none⟩) (Kd.V_far (p := ⟨gb212, 8, none⟩) (Kd.V_far (p := ⟨gb212, 7, none⟩) (Kd.V_far (p := ⟨gb212, 6, none⟩) (Kd.V_far (p := ⟨gb212, 5, none⟩) (Kd.V_far (p := ⟨gb212, 4, none⟩) (Kd.V_far (p := ⟨gb212, 3, none⟩) (Kd.V_far (p := ⟨gb212, 2, none⟩) (Kd.V_far (p := ⟨gb212, 1, none⟩) (Kd.V_far (p := ⟨gb212, 0, none⟩) (Kd.V_mono HO194.out (fun k_ hk => (⟨hk, hk.2⟩ : _ ∧ k_ ≠ gb212))) (fun _ hk => hk.2) (.int .i64 t198)) (fun _ hk => hk.2) (.int .i64 t199)) (fun _ hk => hk.2) (.int .i64 t200)) (fun _ hk => hk.2) (.string t201)) (fun _ hk => hk.2) (.int .i64 t202)) (fun _ hk => hk.2) (.int .i64 t203)) (fun _ hk => hk.2) (.int .i64 t204)) (fun _ hk => hk.2) (.int .i64 t205)) (fun _ hk => hk.2) (.string t206)) (fun _ hk => hk.2) (.slice Ao26 t207.length co26)) (fun _ h_ => h_.1))) hb); have n1_ := Aside0.mk (Kd.V_below (by (with_reducible repeat (first | apply Kd.V_alloc | apply Kd.V_drewN | apply Kd.V_drew)); exact (Kd.V_mono (Kd.V_far (p := ⟨gb212, 9, none⟩) (Kd.V_far (p := ⟨gb212, 8, none⟩) (Kd.V_far (p := ⟨gb212, 7, none⟩) (Kd.V_far (p := ⟨gb212, 6, none⟩) (Kd.V_far (p := ⟨gb212, 5, none⟩) (Kd.V_far (p := ⟨gb212, 4, none⟩) (Kd.V_far (p := ⟨gb212, 3, none⟩) (Kd.V_far (p := ⟨gb212, 2, none⟩) (Kd.V_far (p := ⟨gb212, 1, none⟩) (Kd.V_far (p := ⟨gb212, 0, none⟩) (Kd.V_mono HO209.out (fun k_ hk => (⟨hk, hk.2⟩ : _ ∧ k_ ≠ gb212))) (fun _ hk => hk.2) (.int .i64 t198)) (fun _ hk => hk.2) (.int .i64 t199)) (fun _ hk => hk.2) (.int .i64 t200)) (fun _ hk => hk.2) (.string t201)) (fun _ hk => hk.2) (.int .i64 t202)) (fun _ hk => hk.2) (.int .i64 t203)) (fun _ hk => hk.2) (.int .i64 t204)) (fun _ hk => hk.2) (.int .i64 t205)) (fun _ hk => hk.2) (.string t206)) (fun _ hk => hk.2) (.slice Ao26 t207.length co26)) (fun _ h_ => h_.1))) hb); have n2_ := Aside0.mk (Kd.V_lower (Kd.V_mono (ok' := fun k_ => k_ ≠ gb197 ∧ k_ ≠ gb212) ho0 (fun k_ hk_ => ⟨(Kd.freshB (g := gb197) (o := .cells #[.int .i64 t183, .int .i64 t184, .int .i64 t185, .string t186, .int .i64 t187, .int .i64 t188, .int .i64 t189, .int .i64 t190, .string t191, .slice Ao21 t192.length co21] 31 (0, 0)) (by refine zB (blk_far ?_ NB197_212.out _); refine zB ?_; refine blk_far ?_ NB197_212.out _; refine zB (blk_far ?_ NB197_212.out _); refine zB ?_; refine blk_far ?_ NB197_212.out _; refine zB (blk_far ?_ NB197_212.out _); refine zB ?_; refine blk_far ?_ NB197_212.out _; refine zB (blk_far ?_ NB197_212.out _); refine zB ?_; refine blk_far ?_ NB197_212.out _; refine zB (blk_far ?_ NB197_212.out _); refine zB (blk_far ?_ NB197_212.out _); refine zB ?_; exact BK197.out) k_ hk_), (Kd.freshB (g := gb212) (o := .cells #[.int .i64 t198, .int .i64 t199, .int .i64 t200, .string t201, .int .i64 t202, .int .i64 t203, .int .i64 t204, .int .i64 t205, .string t206, .slice Ao26 t207.length co26] 31 (0, 0)) (by refine zB ?_; refine blk_put (cs := #[.int .i64 t198, .int .i64 t199, .int .i64 t200, .string t201, .int .i64 t202, .int .i64 t203, .int .i64 t204, .int .i64 t205, .string t206, .slice none 0 0]) ?_ 9 _ rfl; refine zB ?_; refine blk_put (cs := #[.int .i64 t198, .int .i64 t199, .int .i64 t200, .string t201, .int .i64 t202, .int .i64 t203, .int .i64 t204, .int .i64 t205, .string (⟨#[]⟩ : ByteArray), .slice none 0 0]) ?_ 8 _ rfl; refine zB ?_; refine blk_put (cs := #[.int .i64 t198, .int .i64 t199, .int .i64 t200, .string t201, .int .i64 t202, .int .i64 t203, .int .i64 t204, .int .i64 0, .string (⟨#[]⟩ : ByteArray), .slice none 0 0]) ?_ 7 _ rfl; refine zB ?_; refine blk_put (cs := #[.int .i64 t198, .int .i64 t199, .int .i64 t200, .string t201, .int .i64 t202, .int .i64 t203, .int .i64 0, .int .i64 0, .string (⟨#[]⟩ : ByteArray), .slice none 0 0]) ?_ 6 _ rfl; refine zB ?_; refine blk_put (cs := #[.int .i64 t198, .int .i64 t199, .int .i64 t200, .string t201, .int .i64 t202, .int .i64 0, .int .i64 0, .int .i64 0, .string (⟨#[]⟩ : ByteArray), .slice none 0 0]) ?_ 5 _ rfl; refine zB ?_; refine blk_put (cs := #[.int .i64 t198, .int .i64 t199, .int .i64 t200, .string t201, .int .i64 0, .int .i64 0, .int .i64 0, .int .i64 0, .string (⟨#[]⟩ : ByteArray), .slice none 0 0]) ?_ 4 _ rfl; refine zB ?_; refine blk_put (cs := #[.int .i64 t198, .int .i64 t199, .int .i64 t200, .string (⟨#[]⟩ : ByteArray), .int .i64 0, .int .i64 0, .int .i64 0, .int .i64 0, .string (⟨#[]⟩ : ByteArray), .slice none 0 0]) ?_ 3 _ rfl; refine zB ?_; refine blk_put (cs := #[.int .i64 t198, .int .i64 t199, .int .i64 0, .string (⟨#[]⟩ : ByteArray), .int .i64 0, .int .i64 0, .int .i64 0, .int .i64 0, .string (⟨#[]⟩ : ByteArray), .slice none 0 0]) ?_ 2 _ rfl; refine zB ?_; refine blk_put (cs := #[.int .i64 t198, .int .i64 0, .int .i64 0, .string (⟨#[]⟩ : ByteArray), .int .i64 0, .int .i64 0, .int .i64 0, .int .i64 0, .string (⟨#[]⟩ : ByteArray), .slice none 0 0]) ?_ 1 _ rfl; refine zB ?_; refine blk_put (cs := #[.int .i64 0, .int .i64 0, .int .i64 0, .string (⟨#[]⟩ : ByteArray), .int .i64 0, .int .i64 0, .int .i64 0, .int .i64 0, .string (⟨#[]⟩ : ByteArray), .slice none 0 0]) ?_ 0 _ rfl; refine zB ?_; exact BK212.out) k_ hk_)⟩)) (below_size (by repeat first | with_reducible exact HB.out | apply zS | refine below_set ?_ GE197.out | refine below_set ?_ GE212.out | exact HB.out))); have n3_ := Aside0.mk (blk_below (g := gb197) (o := .cells #[.int .i64 t183, .int .i64 t184, .int .i64 t185, .string t186, .int .i64 t187, .int .i64 t188, .int .i64 t189, .int .i64 t190, .string t191, .slice Ao21 t192.length co21] 31 (0, 0)) (by refine zB (blk_far ?_ NB197_212.out _); refine zB ?_; refine blk_far ?_ NB197_212.out _; refine zB (blk_far ?_ NB197_212.out _); refine zB ?_; refine blk_far ?_ NB197_212.out _; refine zB (blk_far ?_ NB197_212.out _); refine zB ?_; refine blk_far ?_ NB197_212.out _; refine zB (blk_far ?_ NB197_212.out _); refine zB ?_; refine blk_far ?_ NB197_212.out _; refine zB (blk_far ?_ NB197_212.out _); refine zB (blk_far ?_ NB197_212.out _); refine zB ?_; exact BK197.out) hb); have n4_ := Aside0.mk (blk_below (g := gb212) (o := .cells #[.int .i64 t198, .int .i64 t199, .int .i64 t200, .string t201, .int .i64 t202, .int .i64 t203, .int .i64 t204, .int .i64 t205, .string t206, .slice Ao26 t207.length co26] 31 (0, 0)) (by refine zB ?_; refine blk_put (cs := #[.int .i64 t198, .int .i64 t199, .int .i64 t200, .string t201, .int .i64 t202, .int .i64 t203, .int .i64 t204, .int .i64 t205, .string t206, .slice none 0 0]) ?_ 9 _ rfl; refine zB ?_; refine blk_put (cs := #[.int .i64 t198, .int .i64 t199, .int .i64 t200, .string t201, .int .i64 t202, .int .i64 t203, .int .i64 t204, .int .i64 t205, .string (⟨#[]⟩ : ByteArray), .slice none 0 0]) ?_ 8 _ rfl; refine zB ?_; refine blk_put (cs := #[.int .i64 t198, .int .i64 t199, .int .i64 t200, .string t201, .int .i64 t202, .int .i64 t203, .int .i64 t204, .int .i64 0, .string (⟨#[]⟩ : ByteArray), .slice none 0 0]) ?_ 7 _ rfl; refine zB ?_; refine blk_put (cs := #[.int .i64 t198, .int .i64 t199, .int .i64 t200, .string t201, .int .i64 t202, .int .i64 t203, .int .i64 0, .int .i64 0, .string (⟨#[]⟩ : ByteArray), .slice none 0 0]) ?_ 6 _ rfl; refine zB ?_; refine blk_put (cs := #[.int .i64 t198, .int .i64 t199, .int .i64 t200, .string t201, .int .i64 t202, .int .i64 0, .int .i64 0, .int .i64 0, .string (⟨#[]⟩ : ByteArray), .slice none 0 0]) ?_ 5 _ rfl; refine zB ?_; refine blk_put (cs := #[.int .i64 t198, .int .i64 t199, .int .i64 t200, .string t201, .int .i64 0, .int .i64 0, .int .i64 0, .int .i64 0, .string (⟨#[]⟩ : ByteArray), .slice none 0 0]) ?_ 4 _ rfl; refine zB ?_; refine blk_put (cs := #[.int .i64 t198, .int .i64 t199, .int .i64 t200, .string (⟨#[]⟩ : ByteArray), .int .i64 0, .int .i64 0, .int .i64 0, .int .i64 0, .string (⟨#[]⟩ : ByteArray), .slice none 0 0]) ?_ 3 _ rfl; refine zB ?_; refine blk_put (cs := #[.int .i64 t198, .int .i64 t199, .int .i64 0, .string (⟨#[]⟩ : ByteArray), .int .i64 0, .int .i64 0, .int .i64 0, .int .i64 0, .string (⟨#[]⟩ : ByteArray), .slice none 0 0]) ?_ 2 _ rfl; refine zB ?_; refine blk_put (cs := #[.int .i64 t198, .int .i64 0, .int .i64 0, .string (⟨#[]⟩ : ByteArray), .int .i64 0, .int .i64 0, .int .i64 0, .int .i64 0, .string (⟨#[]⟩ : ByteArray), .slice none 0 0]) ?_ 1 _ rfl; refine zB ?_; refine blk_put (cs := #[.int .i64 0, .int .i64 0, .int .i64 0, .string (⟨#[]⟩ : ByteArray), .int .i64 0, .int .i64 0, .int .i64 0, .int .i64 0, .string (⟨#[]⟩ : ByteArray), .slice none 0 0]) ?_ 0 _ rfl; refine zB ?_; exact BK212.out) hb); have n5_ := Aside0.mk (below_step (by repeat first | with_reducible exact HB.out | apply zS | refine below_set ?_ GE197.out | refine below_set ?_ GE212.out | exact HB.out) hb); clear HO194; clear HO209; clear BK197; clear BK212; clear HB; have HO194 := n0_; have HO209 := n1_; have HO224 := n2_; have BK197 := n3_; have BK212 := n4_; have HB := n5_; clear n0_ n1_ n2_ n3_ n4_ n5_; (try clear hb); (try clear hb2); (try clear hk); (try clear hi); (try clear ho0)) | ((with_reducible refine gate_dst (N := 7) rfl ?_); (try (refine gate_guard (by rfl) ?_; dsimp only)); refine box_event ?hg (N := 7) ?hd (cs := #[.int .i64 0, .int .i64 0, .int .i64 0, .string (⟨#[]⟩ : ByteArray), .int .i64 0, .int .i64 0, .int .i64 0, .int .i64 0, .string (⟨#[]⟩ : ByteArray), .slice none 0 0]) (t := 31) ?hr ?_; (case hd => rfl); (case hg => rfl); (case hr => first | (go_simp; done) | (go_simp; rfl)); intro gb227 hg w28 hbox hb; have n0_ := Aside0.mk (Kd.V_below (Kd.V_elderB (by (with_reducible repeat (first | apply Kd.V_alloc | apply Kd.V_drewN | apply Kd.V_drew)); exact HO194.out) gb227 (Nat.le_of_eq hg.symm)) hb); have n1_ := Aside0.mk (Kd.V_below (Kd.V_elderB (by (with_reducible repeat (first | apply Kd.V_alloc | apply Kd.V_drewN | apply Kd.V_drew)); exact HO209.out) gb227 (Nat.le_of_eq hg.symm)) hb); have n2_ := Aside0.mk (Kd.V_below (Kd.V_elderB (by (with_reducible repeat (first | apply Kd.V_alloc | apply Kd.V_drewN | apply Kd.V_drew)); exact HO224.out) gb227 (Nat.le_of_eq hg.symm)) hb); have n3_ := Aside0.mk (blk_below (g := gb197) (o := .cells #[.int .i64 t183, .int .i64 t184, .int .i64 t185, .string t186, .int .i64 t187, .int .i64 t188, .int .i64 t189, .int .i64 t190, .string t191, .slice Ao21 t192.length co21] 31 (0, 0)) (zB BK197.out) hb); have n4_ := Aside0.mk (blk_below (g := gb212) (o := .cells #[.int .i64 t198, .int .i64 t199, .int .i64 t200, .string t201, .int .i64 t202, .int .i64 t203, .int .i64 t204, .int .i64 t205, .string t206, .slice Ao26 t207.length co26] 31 (0, 0)) (zB BK212.out) hb); have n5_ := Aside0.mk (below_step (by repeat first | with_reducible exact HB.out | apply zS | refine below_set ?_ GE197.out | refine below_set ?_ GE212.out | exact HB.out) hb); have n6_ := Aside0.mk (hbox); have n7_ := Aside0.mk ((by rw [hg]; exact (below_size (by repeat first | with_reducible exact HB.out | apply zS | refine below_set ?_ GE197.out | refine below_set ?_ GE212.out | exact HB.out)) : w.heap.size ≤ gb227)); have n8_ := n7_; have n9_ := Aside0.mk ((by rw [hg]; exact Nat.ne_of_lt (blk_lt (g := gb197) (o := .cells #[.int .i64 t183, .int .i64 t184, .int .i64 t185, .string t186, .int .i64 t187, .int .i64 t188, .int .i64 t189, .int .i64 t190, .string t191, .slice Ao21 t192.length co21] 31 (0, 0)) (zB BK197.out)) : gb197 ≠ gb227)); have n10_ := Aside0.mk ((by rw [hg]; exact Nat.ne_of_gt (blk_lt (g := gb197) (o := .cells #[.int .i64 t183, .int .i64 t184, .int .i64 t185, .string t186, .int .i64 t187, .int .i64 t188, .int .i64 t189, .int .i64 t190, .string t191, .slice Ao21 t192.length co21] 31 (0, 0)) (zB BK197.out)) : gb227 ≠ gb197)); have n11_ := Aside0.mk ((by rw [hg]; exact Nat.ne_of_lt (blk_lt (g := gb212) (o := .cells #[.int .i64 t198, .int .i64 t199, .int .i64 t200, .string t201, .int .i64 t202, .int .i64 t203, .int .i64 t204, .int .i64 t205, .string t206, .slice Ao26 t207.length co26] 31 (0, 0)) (zB BK212.out)) : gb212 ≠ gb227)); have n12_ := Aside0.mk ((by rw [hg]; exact Nat.ne_of_gt (blk_lt (g := gb212) (o := .cells #[.int .i64 t198, .int .i64 t199, .int .i64 t200, .string t201, .int .i64 t202, .int .i64 t203, .int .i64 t204, .int .i64 t205, .string t206, .slice Ao26 t207.length co26] 31 (0, 0)) (zB BK212.out)) : gb227 ≠ gb212)); clear HO194; clear HO209; clear HO224; clear BK197; clear BK212; clear HB; have HO194 := n0_; have HO209 := n1_; have HO224 := n2_; have BK197 := n3_; have BK212 := n4_; have HB := n5_; have BK227 := n6_; have GW227 := n7_; have GE227 := n8_; have NB197_227 := n9_; have NB227_197 := n10_; have NB212_227 := n11_; have NB227_212 := n12_; clear n0_ n1_ n2_ n3_ n4_ n5_ n6_ n7_ n8_ n9_ n10_ n11_ n12_; clear hb hbox hg; have hnb29 := NB227_197.out; have hnc29 := NB197_227.out; have hnb30 := NB227_212.out; have hnc30 := NB212_227.out; obtain ⟨hcz31_0, hcz31_1, hcz31_2, hcz31_3, hcz31_4, hcz31_5, hcz31_6, hcz31_7, hcz31_8, hcz31_9, hfz31_0, hfz31_1, hfz31_2, hfz31_3, hfz31_4, hfz31_5, hfz31_6, hfz31_7, hfz31_8, hfz31_9⟩ := zC10 BK227.out; obtain ⟨Ao32, co32, eo32⟩ := Kd.V_slice HO224.out; subst eo32) | ((with_reducible refine gate_store (t := 31) (p := 7) rfl ?_); refine store_event (t := 31) (p := 7) (v := ?vo_w33) (w1 := ((((((((((w28.setCell ⟨gb227, 0, none⟩ (.int .i64 t213)).setCell ⟨gb227, 1, none⟩ (.int .i64 t214)).setCell ⟨gb227, 2, none⟩ (.int .i64 t215)).setCell ⟨gb227, 3, none⟩ (.string t216)).setCell ⟨gb227, 4, none⟩ (.int .i64 t217)).setCell ⟨gb227, 5, none⟩ (.int .i64 t218)).setCell ⟨gb227, 6, none⟩ (.int .i64 t219)).setCell ⟨gb227, 7, none⟩ (.int .i64 t220)).setCell ⟨gb227, 8, none⟩ (.string t221)).setCell ⟨gb227, 9, none⟩ (.slice Ao32 t222.length co32))) ?hg ?ho ?hn ?hr ?_; (case ho => rfl); (case hg => rfl); (case hn => rfl); (case hr => first | (go_simp; done) | (go_simp; rfl)); intro w33 hw; have n0_ : Aside0 (Kd.V k31 31 w33 w.heap.size (fun k_ => k_ ≠ gb197 ∧ k_ ≠ gb212 ∧ k_ ≠ gb227) (.slice Ao21 t192.length co21) t192) := ⟨(by rw [hw]; exact (by (with_reducible repeat (first | apply Kd.V_alloc | apply Kd.V_drewN | apply Kd.V_drew)); exact Kd.V_mono (Kd.V_far (p := ⟨gb227, 9, none⟩) (Kd.V_far (p := ⟨gb227, 8, none⟩) (Kd.V_far (p := ⟨gb227, 7, none⟩) (Kd.V_far (p := ⟨gb227, 6, none⟩) (Kd.V_far (p := ⟨gb227, 5, none⟩) (Kd.V_far (p := ⟨gb227, 4, none⟩) (Kd.V_far (p := ⟨gb227, 3, none⟩) (Kd.V_far (p := ⟨gb227, 2, none⟩) (Kd.V_far (p := ⟨gb227, 1, none⟩) (Kd.V_far (p := ⟨gb227, 0, none⟩) (Kd.V_mono HO194.out (fun k_ hk => (⟨hk, hk.2⟩ : _ ∧ k_ ≠ gb227))) (fun _ hk => hk.2) (.int .i64 t213)) (fun _ hk => hk.2) (.int .i64 t214)) (fun _ hk => hk.2) (.int .i64 t215)) (fun _ hk => hk.2) (.string t216)) (fun _ hk => hk.2) (.int .i64 t217)) (fun _ hk => hk.2) (.int .i64 t218)) (fun _ hk => hk.2) (.int .i64 t219)) (fun _ hk => hk.2) (.int .i64 t220)) (fun _ hk => hk.2) (.string t221)) (fun _ hk => hk.2) (.slice Ao32 t222.length co32)) (fun _ hk => ⟨hk.1.1.1.2, ⟨hk.1.1.2, hk.1.2⟩⟩)))⟩; have n1_ : Aside0 (Kd.V k31 31 w33 w.heap.size (fun k_ => k_ ≠ gb197 ∧ k_ ≠ gb212 ∧ k_ ≠ gb227) (.slice Ao26 t207.length co26) t207) := ⟨(by rw [hw]; exact (by (with_reducible repeat (first | apply Kd.V_alloc | apply Kd.V_drewN | apply Kd.V_drew)); exact Kd.V_mono (Kd.V_far (p := ⟨gb227, 9, none⟩) (Kd.V_far (p := ⟨gb227, 8, none⟩) (Kd.V_far (p := ⟨gb227, 7, none⟩) (Kd.V_far (p := ⟨gb227, 6, none⟩) (Kd.V_far (p := ⟨gb227, 5, none⟩) (Kd.V_far (p := ⟨gb227, 4, none⟩) (Kd.V_far (p := ⟨gb227, 3, none⟩) (Kd.V_far (p := ⟨gb227, 2, none⟩) (Kd.V_far (p := ⟨gb227, 1, none⟩) (Kd.V_far (p := ⟨gb227, 0, none⟩) (Kd.V_mono HO209.out (fun k_ hk => (⟨hk, hk.2⟩ : _ ∧ k_ ≠ gb227))) (fun _ hk => hk.2) (.int .i64 t213)) (fun _ hk => hk.2) (.int .i64 t214)) (fun _ hk => hk.2) (.int .i64 t215)) (fun _ hk => hk.2) (.string t216)) (fun _ hk => hk.2) (.int .i64 t217)) (fun _ hk => hk.2) (.int .i64 t218)) (fun _ hk => hk.2) (.int .i64 t219)) (fun _ hk => hk.2) (.int .i64 t220)) (fun _ hk => hk.2) (.string t221)) (fun _ hk => hk.2) (.slice Ao32 t222.length co32)) (fun _ hk => ⟨hk.1.1.1, ⟨hk.1.1.2, hk.1.2⟩⟩)))⟩; have n2_ : Aside0 (Kd.V k31 31 w33 w.heap.size (fun k_ => k_ ≠ gb197 ∧ k_ ≠ gb212 ∧ k_ ≠ gb227) (.slice Ao32 t222.length co32) t222) := ⟨(by rw [hw]; exact (by (with_reducible repeat (first | apply Kd.V_alloc | apply Kd.V_drewN | apply Kd.V_drew)); exact Kd.V_mono (Kd.V_far (p := ⟨gb227, 9, none⟩) (Kd.V_far (p := ⟨gb227, 8, none⟩) (Kd.V_far (p := ⟨gb227, 7, none⟩) (Kd.V_far (p := ⟨gb227, 6, none⟩) (Kd.V_far (p := ⟨gb227, 5, none⟩) (Kd.V_far (p := ⟨gb227, 4, none⟩) (Kd.V_far (p := ⟨gb227, 3, none⟩) (Kd.V_far (p := ⟨gb227, 2, none⟩) (Kd.V_far (p := ⟨gb227, 1, none⟩) (Kd.V_far (p := ⟨gb227, 0, none⟩) (Kd.V_mono HO224.out (fun k_ hk => (⟨hk, hk.2⟩ : _ ∧ k_ ≠ gb227))) (fun _ hk => hk.2) (.int .i64 t213)) (fun _ hk => hk.2) (.int .i64 t214)) (fun _ hk => hk.2) (.int .i64 t215)) (fun _ hk => hk.2) (.string t216)) (fun _ hk => hk.2) (.int .i64 t217)) (fun _ hk => hk.2) (.int .i64 t218)) (fun _ hk => hk.2) (.int .i64 t219)) (fun _ hk => hk.2) (.int .i64 t220)) (fun _ hk => hk.2) (.string t221)) (fun _ hk => hk.2) (.slice Ao32 t222.length co32)) (fun _ hk => ⟨hk.1.1.1, ⟨hk.1.1.2, hk.1.2⟩⟩)))⟩; have n3_ : Aside0 (w33.heap[gb197]? = some (.cells #[.int .i64 t183, .int .i64 t184, .int .i64 t185, .string t186, .int .i64 t187, .int .i64 t188, .int .i64 t189, .int .i64 t190, .string t191, .slice Ao21 t192.length co21] 31 (0, 0))) := ⟨(by rw [hw]; exact (by refine zB (blk_far ?_ NB197_227.out _); refine zB ?_; refine blk_far ?_ NB197_227.out _; refine zB (blk_far ?_ NB197_227.out _); refine zB ?_; refine blk_far ?_ NB197_227.out _; refine zB (blk_far ?_ NB197_227.out _); refine zB ?_; refine blk_far ?_ NB197_227.out _; refine zB (blk_far ?_ NB197_227.out _); refine zB ?_; refine blk_far ?_ NB197_227.out _; refine zB (blk_far ?_ NB197_227.out _); refine zB (blk_far ?_ NB197_227.out _); refine zB ?_; exact BK197.out))⟩; have n4_ : Aside0 (w33.heap[gb212]? = some (.cells #[.int .i64 t198, .int .i64 t199, .int .i64 t200, .string t201, .int .i64 t202, .int .i64 t203, .int .i64 t204, .int .i64 t205, .string t206, .slice Ao26 t207.length co26] 31 (0, 0))) := ⟨(by rw [hw]; exact (by refine zB (blk_far ?_ NB212_227.out _); refine zB ?_; refine blk_far ?_ NB212_227.out _; refine zB (blk_far ?_ NB212_227.out _); refine zB ?_; refine blk_far ?_ NB212_227.out _; refine zB (blk_far ?_ NB212_227.out _); refine zB ?_; refine blk_far ?_ NB212_227.out _; refine zB (blk_far ?_ NB212_227.out _); refine zB ?_; refine blk_far ?_ NB212_227.out _; refine zB (blk_far ?_ NB212_227.out _); refine zB (blk_far ?_ NB212_227.out _); refine zB ?_; exact BK212.out))⟩; have n5_ : Aside0 (w33.heap[gb227]? = some (.cells #[.int .i64 t213, .int .i64 t214, .int .i64 t215, .string t216, .int .i64 t217, .int .i64 t218, .int .i64 t219, .int .i64 t220, .string t221, .slice Ao32 t222.length co32] 31 (0, 0))) := ⟨(by rw [hw]; exact (by refine zB ?_; refine blk_put (cs := #[.int .i64 t213, .int .i64 t214, .int .i64 t215, .string t216, .int .i64 t217, .int .i64 t218, .int .i64 t219, .int .i64 t220, .string t221, .slice none 0 0]) ?_ 9 _ rfl; refine zB ?_; refine blk_put (cs := #[.int .i64 t213, .int .i64 t214, .int .i64 t215, .string t216, .int .i64 t217, .int .i64 t218, .int .i64 t219, .int .i64 t220, .string (⟨#[]⟩ : ByteArray), .slice none 0 0]) ?_ 8 _ rfl; refine zB ?_; refine blk_put (cs := #[.int .i64 t213, .int .i64 t214, .int .i64 t215, .string t216, .int .i64 t217, .int .i64 t218, .int .i64 t219, .int .i64 0, .string (⟨#[]⟩ : ByteArray), .slice none 0 0]) ?_ 7 _ rfl; refine zB ?_; refine blk_put (cs := #[.int .i64 t213, .int .i64 t214, .int .i64 t215, .string t216, .int .i64 t217, .int .i64 t218, .int .i64 0, .int .i64 0, .string (⟨#[]⟩ : ByteArray), .slice none 0 0]) ?_ 6 _ rfl; refine zB ?_; refine blk_put (cs := #[.int .i64 t213, .int .i64 t214, .int .i64 t215, .string t216, .int .i64 t217, .int .i64 0, .int .i64 0, .int .i64 0, .string (⟨#[]⟩ : ByteArray), .slice none 0 0]) ?_ 5 _ rfl; refine zB ?_; refine blk_put (cs := #[.int .i64 t213, .int .i64 t214, .int .i64 t215, .string t216, .int .i64 0, .int .i64 0, .int .i64 0, .int .i64 0, .string (⟨#[]⟩ : ByteArray), .slice none 0 0]) ?_ 4 _ rfl; refine zB ?_; refine blk_put (cs := #[.int .i64 t213, .int .i64 t214, .int .i64 t215, .string (⟨#[]⟩ : ByteArray), .int .i64 0, .int .i64 0, .int .i64 0, .int .i64 0, .string (⟨#[]⟩ : ByteArray), .slice none 0 0]) ?_ 3 _ rfl; refine zB ?_; refine blk_put (cs := #[.int .i64 t213, .int .i64 t214, .int .i64 0, .string (⟨#[]⟩ : ByteArray), .int .i64 0, .int .i64 0, .int .i64 0, .int .i64 0, .string (⟨#[]⟩ : ByteArray), .slice none 0 0]) ?_ 2 _ rfl; refine zB ?_; refine blk_put (cs := #[.int .i64 t213, .int .i64 0, .int .i64 0, .string (⟨#[]⟩ : ByteArray), .int .i64 0, .int .i64 0, .int .i64 0, .int .i64 0, .string (⟨#[]⟩ : ByteArray), .slice none 0 0]) ?_ 1 _ rfl; refine zB ?_; refine blk_put (cs := #[.int .i64 0, .int .i64 0, .int .i64 0, .string (⟨#[]⟩ : ByteArray), .int .i64 0, .int .i64 0, .int .i64 0, .int .i64 0, .string (⟨#[]⟩ : ByteArray), .slice none 0 0]) ?_ 0 _ rfl; refine zB ?_; exact BK227.out))⟩; have n6_ : Aside0 (Below w.heap.size w w33) := ⟨(by rw [hw]; exact (by repeat first | with_reducible exact HB.out | apply zS | refine below_set ?_ GE197.out | refine below_set ?_ GE212.out | refine below_set ?_ GE227.out | exact HB.out))⟩; clear hw; clear HO194; clear HO209; clear HO224; clear BK197; clear BK212; clear BK227; clear HB; have HO194 := n0_; have HO209 := n1_; have HO224 := n2_; have BK197 := n3_; have BK212 := n4_; have BK227 := n5_; have HB := n6_; clear n0_ n1_ n2_ n3_ n4_ n5_ n6_; obtain ⟨hcz34_0, hcz34_1, hcz34_2, hcz34_3, hcz34_4, hcz34_5, hcz34_6, hcz34_7, hcz34_8, hcz34_9, hfz34_0, hfz34_1, hfz34_2, hfz34_3, hfz34_4, hfz34_5, hfz34_6, hfz34_7, hfz34_8, hfz34_9⟩ := zC10 BK197.out; have p228 : 0 ≤ (1 : Int) := (by omega); have q228 : 1 < (t192.length : Int) := of_decide_eq_true (by first | (with_reducible assumption) | assumption); obtain ⟨ad228, A228_9, c228_9, e228, hx228_0, hx228_1, hx228_2, hx228_3, hx228_4, hx228_5, hx228_6, hx228_7, hx228_8, hx228_9, hl228_9, hi228_9⟩ := at_T31 (Kd.V_reads' HO194.out).2.2 1 p228 q228; cases e228; obtain ⟨ce228, hce228, hMe228, hcc228⟩ := Kd.V_get HO194.out z31 1 p228 (by first | exact q228 | exact of_decide_eq_true (by first | (with_reducible assumption) | assumption) | (have e_ := (Kd.V_reads' HO194.out).1; omega)); obtain ⟨ua228_9, uc228_9, rfl, ul228_9, ge228_9⟩ := k31_openF hMe228; have hv228_9 := hcc228 9 _ rfl; rw [add_field _ _ 9 (by omega)] at hv228_9; replace hv228_9 := Option.some.inj (hv228_9.symm.trans hx228_9); injection hv228_9 with hva_ hvn_ hvc_; rw [hva_] at ge228_9; rw [hvc_] at ul228_9; have HL228_9 := Aside0.mk (show Kd.V k31 31 _ w.heap.size _ _ ((rd_T31 t192 1).f4) from Kd.V_mk ul228_9 ge228_9); clear hva_ hvn_ hvc_ ge228_9 ul228_9; clear hcc228 hce228; (try simp only [show (1 : Int).toNat = 1 from rfl, Nat.reduceMul, Nat.reduceEqDiff, Go.Addr.add, ↓reduceIte] at hx228_0); (try simp only [show (1 : Int).toNat = 1 from rfl, Nat.reduceMul, Nat.reduceEqDiff, Go.Addr.add, ↓reduceIte] at hx228_1); (try simp only [show (1 : Int).toNat = 1 from rfl, Nat.reduceMul, Nat.reduceEqDiff, Go.Addr.add, ↓reduceIte] at hx228_2); (try simp only [show (1 : Int).toNat = 1 from rfl, Nat.reduceMul, Nat.reduceEqDiff, Go.Addr.add, ↓reduceIte] at hx228_3); (try simp only [show (1 : Int).toNat = 1 from rfl, Nat.reduceMul, Nat.reduceEqDiff, Go.Addr.add, ↓reduceIte] at hx228_4); (try simp only [show (1 : Int).toNat = 1 from rfl, Nat.reduceMul, Nat.reduceEqDiff, Go.Addr.add, ↓reduceIte] at hx228_5); (try simp only [show (1 : Int).toNat = 1 from rfl, Nat.reduceMul, Nat.reduceEqDiff, Go.Addr.add, ↓reduceIte] at hx228_6); (try simp only [show (1 : Int).toNat = 1 from rfl, Nat.reduceMul, Nat.reduceEqDiff, Go.Addr.add, ↓reduceIte] at hx228_7); (try simp only [show (1 : Int).toNat = 1 from rfl, Nat.reduceMul, Nat.reduceEqDiff, Go.Addr.add, ↓reduceIte] at hx228_8); (try simp only [show (1 : Int).toNat = 1 from rfl, Nat.reduceMul, Nat.reduceEqDiff, Go.Addr.add, ↓reduceIte] at hx228_9); have qi228 : (1 < t192.length) = True := eq_true (by omega); (try rw [show ((1 : Int)).toNat = 1 from rfl] at hx228_0); (try rw [show 1 * 10 = 10 from rfl] at hx228_0); (try rw [show ((1 : Int)).toNat = 1 from rfl] at hx228_1); (try rw [show 1 * 10 = 10 from rfl] at hx228_1); (try rw [show ((1 : Int)).toNat = 1 from rfl] at hx228_2); (try rw [show 1 * 10 = 10 from rfl] at hx228_2); (try rw [show ((1 : Int)).toNat = 1 from rfl] at hx228_3); (try rw [show 1 * 10 = 10 from rfl] at hx228_3); (try rw [show ((1 : Int)).toNat = 1 from rfl] at hx228_4); (try rw [show 1 * 10 = 10 from rfl] at hx228_4); (try rw [show ((1 : Int)).toNat = 1 from rfl] at hx228_5); (try rw [show 1 * 10 = 10 from rfl] at hx228_5); (try rw [show ((1 : Int)).toNat = 1 from rfl] at hx228_6); (try rw [show 1 * 10 = 10 from rfl] at hx228_6); (try rw [show ((1 : Int)).toNat = 1 from rfl] at hx228_7); (try rw [show 1 * 10 = 10 from rfl] at hx228_7); (try rw [show ((1 : Int)).toNat = 1 from rfl] at hx228_8); (try rw [show 1 * 10 = 10 from rfl] at hx228_8); (try rw [show ((1 : Int)).toNat = 1 from rfl] at hx228_9); (try rw [show 1 * 10 = 10 from rfl] at hx228_9); have HR228_9 := Aside0.mk hi228_9; have HC228_9 := Aside0.mk hl228_9; clear hi228_9 hl228_9; replace p228 := eq_true p228; replace q228 := eq_true q228; obtain ⟨hcz35_0, hcz35_1, hcz35_2, hcz35_3, hcz35_4, hcz35_5, hcz35_6, hcz35_7, hcz35_8, hcz35_9, hfz35_0, hfz35_1, hfz35_2, hfz35_3, hfz35_4, hfz35_5, hfz35_6, hfz35_7, hfz35_8, hfz35_9⟩ := zC10 BK212.out) | (go_at_call 17; (with_reducible refine (tree_Good.calls k t183 t184 t185 t186 t187 t188 t189 t190 t191 _ _ t192 true _ ?side1 ?side2 A15.out).mono ?_); (case side1 => repeat (first | exact (Kd.V_reads' HO194.out).2.2 | (with_reducible refine Kd.C_alloc ?_ _) | (with_reducible refine Kd.C_drewN ?_ _) | (with_reducible refine Kd.C_drew ?_))); (case side2 => exact (Kd.V_reads' HO194.out).2.1); rintro e w36 ⟨rfl, hb⟩; have n0_ := Aside0.mk (Kd.V_below (by (with_reducible repeat (first | apply Kd.V_alloc | apply Kd.V_drewN | apply Kd.V_drew)); exact HO194.out) hb); have n1_ := Aside0.mk (Kd.V_below (by (with_reducible repeat (first | apply Kd.V_alloc | apply Kd.V_drewN | apply Kd.V_drew)); exact HO209.out) hb); have n2_ := Aside0.mk (Kd.V_below (by (with_reducible repeat (first | apply Kd.V_alloc | apply Kd.V_drewN | apply Kd.V_drew)); exact HO224.out) hb); have n3_ := Aside0.mk (Kd.V_below (by (with_reducible repeat (first | apply Kd.V_alloc | apply Kd.V_drewN | apply Kd.V_drew)); exact HL228_9.out) hb); have n4_ := Aside0.mk (blk_below (g := gb197) (o := .cells #[.int .i64 t183, .int .i64 t184, .int .i64 t185, .string t186, .int .i64 t187, .int .i64 t188, .int .i64 t189, .int .i64 t190, .string t191, .slice (some ad228) t192.length co21] 31 (0, 0)) (zB BK197.out) hb); have n5_ := Aside0.mk (blk_below (g := gb212) (o := .cells #[.int .i64 t198, .int .i64 t199, .int .i64 t200, .string t201, .int .i64 t202, .int .i64 t203, .int .i64 t204, .int .i64 t205, .string t206, .slice Ao26 t207.length co26] 31 (0, 0)) (zB BK212.out) hb); have n6_ := Aside0.mk (blk_below (g := gb227) (o := .cells #[.int .i64 t213, .int .i64 t214, .int .i64 t215, .string t216, .int .i64 t217, .int .i64 t218, .int .i64 t219, .int .i64 t220, .string t221, .slice Ao32 t222.length co32] 31 (0, 0)) (zB BK227.out) hb); have n7_ := Aside0.mk (Kd.C_below (by repeat (first | (with_reducible exact HR228_9.out) | (with_reducible refine Kd.C_alloc ?_ _) | (with_reducible refine Kd.C_drewN ?_ _) | (with_reducible refine Kd.C_drew ?_) | exact HR228_9.out)) hb); have n8_ := Aside0.mk (below_step (by repeat first | with_reducible exact HB.out | apply zS | refine below_set ?_ GE197.out | refine below_set ?_ GE212.out | refine below_set ?_ GE227.out | exact HB.out) hb); clear HO194; clear HO209; clear HO224; clear HL228_9; clear BK197; clear BK212; clear BK227; clear HR228_9; clear HB; have HO194 := n0_; have HO209 := n1_; have HO224 := n2_; have HL228_9 := n3_; have BK197 := n4_; have BK212 := n5_; have BK227 := n6_; have HR228_9 := n7_; have HB := n8_; clear n0_ n1_ n2_ n3_ n4_ n5_ n6_ n7_ n8_; (try clear hb); (try clear hb2); (try clear hk); (try clear hi); obtain ⟨hcz37_0, hcz37_1, hcz37_2, hcz37_3, hcz37_4, hcz37_5, hcz37_6, hcz37_7, hcz37_8, hcz37_9, hfz37_0, hfz37_1, hfz37_2, hfz37_3, hfz37_4, hfz37_5, hfz37_6, hfz37_7, hfz37_8, hfz37_9⟩ := zC10 BK197.out) | (go_at_call 18; (with_reducible refine (tree_Depth.calls k t183 t184 t185 t186 t187 t188 t189 t190 t191 _ _ t192 t230 _ ?side1 ?side2 A17.out).mono ?_); (case side1 => repeat (first | exact (Kd.V_reads' HO194.out).2.2 | (with_reducible refine Kd.C_alloc ?_ _) | (with_reducible refine Kd.C_drewN ?_ _) | (with_reducible refine Kd.C_drew ?_))); (case side2 => exact (Kd.V_reads' HO194.out).2.1); rintro e w38 ⟨rfl, hb⟩; have n0_ := Aside0.mk (Kd.V_below (by (with_reducible repeat (first | apply Kd.V_alloc | apply Kd.V_drewN | apply Kd.V_drew)); exact HO194.out) hb); have n1_ := Aside0.mk (Kd.V_below (by (with_reducible repeat (first | apply Kd.V_alloc | apply Kd.V_drewN | apply Kd.V_drew)); exact HO209.out) hb); have n2_ := Aside0.mk (Kd.V_below (by (with_reducible repeat (first | apply Kd.V_alloc | apply Kd.V_drewN | apply Kd.V_drew)); exact HO224.out) hb); have n3_ := Aside0.mk (Kd.V_below (by (with_reducible repeat (first | apply Kd.V_alloc | apply Kd.V_drewN | apply Kd.V_drew)); exact HL228_9.out) hb); have n4_ := Aside0.mk (blk_below (g := gb197) (o := .cells #[.int .i64 t183, .int .i64 t184, .int .i64 t185, .string t186, .int .i64 t187, .int .i64 t188, .int .i64 t189, .int .i64 t190, .string t191, .slice (some ad228) t192.length co21] 31 (0, 0)) (zB BK197.out) hb); have n5_ := Aside0.mk (blk_below (g := gb212) (o := .cells #[.int .i64 t198, .int .i64 t199, .int .i64 t200, .string t201, .int .i64 t202, .int .i64 t203, .int .i64 t204, .int .i64 t205, .string t206, .slice Ao26 t207.length co26] 31 (0, 0)) (zB BK212.out) hb); have n6_ := Aside0.mk (blk_below (g := gb227) (o := .cells #[.int .i64 t213, .int .i64 t214, .int .i64 t215, .string t216, .int .i64 t217, .int .i64 t218, .int .i64 t219, .int .i64 t220, .string t221, .slice Ao32 t222.length co32] 31 (0, 0)) (zB BK227.out) hb); have n7_ := Aside0.mk (Kd.C_below (by repeat (first | (with_reducible exact HR228_9.out) | (with_reducible refine Kd.C_alloc ?_ _) | (with_reducible refine Kd.C_drewN ?_ _) | (with_reducible refine Kd.C_drew ?_) | exact HR228_9.out)) hb); have n8_ := Aside0.mk (below_step (by repeat first | with_reducible exact HB.out | apply zS | refine below_set ?_ GE197.out | refine below_set ?_ GE212.out | refine below_set ?_ GE227.out | exact HB.out) hb); clear HO194; clear HO209; clear HO224; clear HL228_9; clear BK197; clear BK212; clear BK227; clear HR228_9; clear HB; have HO194 := n0_; have HO209 := n1_; have HO224 := n2_; have HL228_9 := n3_; have BK197 := n4_; have BK212 := n5_; have BK227 := n6_; have HR228_9 := n7_; have HB := n8_; clear n0_ n1_ n2_ n3_ n4_ n5_ n6_ n7_ n8_; (try clear hb); (try clear hb2); (try clear hk); (try clear hi)))
                          go_ret
                          exact ⟨by first | rfl | (simp [errW_none, errW_some] <;> rfl) | (simp [*, errW_none, errW_some] <;> rfl), by repeat first | with_reducible exact HB.out | apply zS | refine below_set ?_ GE197.out | refine below_set ?_ GE212.out | refine below_set ?_ GE227.out | exact HB.out⟩
                        · replace c16 := Bool.eq_false_iff.mpr c16
                          subst c16
                          have H1 : (none) = some r := by rw [if_neg (show ¬ (false = true) by decide)] at H; exact H
                          clear H
                          have H := H1
                          clear H1
                          exact absurd H (by simp)
                      · rw [if_neg c14] at H
                        exact absurd H (by simp)
                    · rw [if_neg c13] at H
                      exact absurd H (by simp)
                  · rw [if_neg c12] at H
                    exact absurd H (by simp)
                · rw [if_neg c11] at H
                  exact absurd H (by simp)
              · rw [if_neg c10] at H
                exact absurd H (by simp)
            · rw [if_neg c9] at H
              exact absurd H (by simp)
          · rw [if_neg c8] at H
            exact absurd H (by simp)
        · rw [if_neg c7] at H
          exact absurd H (by simp)
      · rw [if_neg c6] at H
        exact absurd H (by simp)
    · rw [if_neg c5] at H
      exact absurd H (by simp)
  · rw [if_neg c4] at H
    exact absurd H (by simp)
end Go.Proofs.YtpcnaoipenclnaaGreatDoor.P

namespace Go.Proofs.YtpcnaoipenclnaaGreatDoor.P
open Go.RowKit Go.Proofs.YtpcnaoipenclnaaGreatDoorW.PrintWords Go.Proofs.YtpcnaoipenclnaaGreatDoorW.PrintLast Go.Proofs.YtpcnaoipenclnaaGreatDoorW.PrintMore
open M (I64)
attribute [local go_sem high] eqA28
set_option linter.unusedVariables false
set_option linter.unusedSimpArgs false
def sameL (f : TN → TN → Option Bool) : List TN → List TN → Option Bool
  | [], [] => some true
  | a :: l, b :: m => match f a b with | none => none | some false => some false | some true => sameL f l m
  | _, _ => some false
def valO (a b : TN) : Option Bool := value_Same.f a.f1.f0 a.f1.f1 a.f1.f2 b.f1.f0 b.f1.f1 b.f1.f2
def sameF : Nat → TN → TN → Option Bool
  | 0, _, _ => none
  | k + 1, a, b =>
    if a.f0 = b.f0 then
      match valO a b with
      | none => none
      | some false => some false
      | some true => if a.f2.f0.f0 = b.f2.f0.f0 ∧ a.f2.f0.f1 = b.f2.f0.f1 ∧ a.f2.f1.f0 = b.f2.f1.f0 ∧ a.f2.f1.f1 = b.f2.f1.f1 then (if (a.f3.toList == b.f3.toList) = true then (if a.f4.length = b.f4.length then sameL (sameF k) a.f4 b.f4 else some false) else some false) else some false
    else some false
def SameC (k : Nat) : Prop := ∀ (s t : TN) (A B : Option Addr) (c d : Nat) (W : World) (r : Bool), Kd.C k31 W A s.f4.length s.f4 → s.f4.length ≤ c → Kd.C k31 W B t.f4.length t.f4 → t.f4.length ≤ d → sameF k s t = some r →
  Calls Tryz.prog 50 #[ndV s (.slice A s.f4.length c), ndV t (.slice B t.f4.length d)] W fun e W' => e = .returned (.bool r) ∧ Below W.heap.size W W'
theorem SameC.go {k : Nat} (h : SameC k) (s t : TN) (A B : Option Addr) (c d : Nat) (W : World) (r : Bool) (h1 : Kd.C k31 W A s.f4.length s.f4) (h2 : s.f4.length ≤ c) (h3 : Kd.C k31 W B t.f4.length t.f4) (h4 : t.f4.length ≤ d) (h5 : sameF k s t = some r) :
    Calls Tryz.prog 50 #[ndV s (.slice A s.f4.length c), ndV t (.slice B t.f4.length d)] W fun e W' => e = .returned (.bool r) ∧ Below W.heap.size W W' := h s t A B c d W r h1 h2 h3 h4 h5
theorem C_elem {W : World} {A : Option Addr} {l : List TN} (h : Kd.C k31 W A l.length l) (j : Nat) (x : TN) (hx : l[j]? = some x) :
    ∃ ad A9 c9, A = some ad ∧ W.cell? (ad.add (j * 10)) = some (.int .i64 x.f0) ∧ W.cell? ⟨(ad.add (j * 10)).block, (ad.add (j * 10)).off + 1, none⟩ = some (.int .i64 x.f1.f0) ∧ W.cell? ⟨(ad.add (j * 10)).block, (ad.add (j * 10)).off + 2, none⟩ = some (.int .i64 x.f1.f1) ∧ W.cell? ⟨(ad.add (j * 10)).block, (ad.add (j * 10)).off + 3, none⟩ = some (.string x.f1.f2) ∧ W.cell? ⟨(ad.add (j * 10)).block, (ad.add (j * 10)).off + 4, none⟩ = some (.int .i64 x.f2.f0.f0) ∧ W.cell? ⟨(ad.add (j * 10)).block, (ad.add (j * 10)).off + 5, none⟩ = some (.int .i64 x.f2.f0.f1) ∧ W.cell? ⟨(ad.add (j * 10)).block, (ad.add (j * 10)).off + 6, none⟩ = some (.int .i64 x.f2.f1.f0) ∧ W.cell? ⟨(ad.add (j * 10)).block, (ad.add (j * 10)).off + 7, none⟩ = some (.int .i64 x.f2.f1.f1) ∧ W.cell? ⟨(ad.add (j * 10)).block, (ad.add (j * 10)).off + 8, none⟩ = some (.string x.f3) ∧ W.cell? ⟨(ad.add (j * 10)).block, (ad.add (j * 10)).off + 9, none⟩ = some (.slice A9 x.f4.length c9) ∧ x.f4.length ≤ c9 ∧ Kd.C k31 W A9 x.f4.length x.f4 := by
  obtain ⟨hj, rfl⟩ := List.getElem?_eq_some_iff.1 hx
  obtain ⟨ad, A9, c9, rfl, e0, e1, e2, e3, e4, e5, e6, e7, e8, e9, hl9, hi9⟩ := at_T31 h (j : Int) (by omega) (by omega)
  have hr : rd_T31 l (j : Int) = l[j] := by unfold rd_T31; simp [List.getD_eq_getElem?_getD, hj]
  rw [hr, show ((j : Int)).toNat = j by omega] at e0 e1 e2 e3 e4 e5 e6 e7 e8 e9
  rw [hr] at hl9 hi9
  exact ⟨ad, A9, c9, rfl, e0, e1, e2, e3, e4, e5, e6, e7, e8, e9, hl9, hi9⟩
def EqS (k : Nat) (l m : List TN) (W : World) (r : Bool) (i : Value) (wr : World) : Prop :=
  ∃ j : Nat, i = .int .i64 (j : Int) ∧ j ≤ l.length ∧ sameL (sameF k) (l.drop j) (m.drop j) = some r ∧ Below W.heap.size W wr
set_option maxHeartbeats 2000000 in
set_option maxRecDepth 100000 in
theorem equal_calls {k : Nat} (h : SameC k) (l m : List TN) (A B : Option Addr) (c d : Nat) (W : World) (r : Bool) (h1 : Kd.C k31 W A l.length l) (h2 : l.length ≤ c) (h1' : Kd.C k31 W B m.length m) (h2' : m.length ≤ d) (h3 : (if l.length = m.length then sameL (sameF k) l m else some false) = some r) :
    Calls Tryz.prog 81 #[.slice A l.length c, .slice B m.length d, .func (.func 50) #[] #[]] W fun e W' => e = .returned (.bool r) ∧ Below W.heap.size W W' := by
  have HC := Lib.hid h1
  have HD := Lib.hid h1'
  have H := Lib.hid h
  have hlen := h1.2.1
  clear h1 h2 h1' h2' h
  by_cases he : l.length = m.length
  · rw [if_pos he] at h3
    have H3 := Lib.hid h3
    have HE := Lib.hid he
    have hq : ((l.length : Int) != (m.length : Int)) = false := by rw [he]; simp
    clear h3 he
    go_enter Tryz.func81, Tryz.ntmps81
    go_wp2
    go_loopw [17] (EqS k l m W r) (fun i _ => l.length - (intOf i).toNat)
    case atStart => exact ⟨0, rfl, Nat.zero_le _, H3.out, Below.refl _ _⟩
    case round =>
      obtain ⟨j, rfl, hj, hF, hb⟩ := hrel
      have HB := Lib.hid hb
      have HCr := Lib.hid (Kd.C_below HC.out hb)
      have HDr := Lib.hid (Kd.C_below HD.out hb)
      clear H3 hb hq
      by_cases hlt : j < l.length
      · obtain ⟨x, hx⟩ : ∃ x, l[j]? = some x := ⟨_, List.getElem?_eq_getElem hlt⟩
        obtain ⟨y, hy⟩ : ∃ y, m[j]? = some y := ⟨_, List.getElem?_eq_getElem (by have := HE.out; omega)⟩
        have hd1 : l.drop j = x :: l.drop (j + 1) := by
          obtain ⟨g1, g2⟩ := List.getElem?_eq_some_iff.1 hx
          rw [List.drop_eq_getElem_cons g1, g2]
        have hd2 : m.drop j = y :: m.drop (j + 1) := by
          obtain ⟨g1, g2⟩ := List.getElem?_eq_some_iff.1 hy
          rw [List.drop_eq_getElem_cons g1, g2]
        obtain ⟨ad, A9, c9, rfl, e0, e1, e2, e3, e4, e5, e6, e7, e8, e9, hl9, hi9⟩ := C_elem HCr.out j x hx
        obtain ⟨bd, B9, d9, rfl, f0, f1, f2, f3, f4, f5, f6, f7, f8, f9, kl9, ki9⟩ := C_elem HDr.out j y hy
        rw [hd1, hd2, sameL] at hF
        have hq1 : ((0 : Int) ≤ (j : Int)) = True := eq_true (by omega)
        have hq2 : ((j : Int) < (l.length : Int)) = True := eq_true (by omega)
        have hq4 : ((j : Int) < (m.length : Int)) = True := eq_true (by have := HE.out; omega)
        have hq3 : decide ((j : Int) < (l.length : Int)) = true := decide_eq_true (by omega)
        have t1 : (ad.add (j * 10)).block < wr.heap.size := World.block_lt_of_cell? _ _ e0
        have t2 : (bd.add (j * 10)).block < wr.heap.size := World.block_lt_of_cell? _ _ f0
        have HI9 := Lib.hid hi9
        have HL9 := Lib.hid hl9
        have KI9 := Lib.hid ki9
        have KL9 := Lib.hid kl9
        cases hf : sameF k x y with
        | none => rw [hf] at hF; cases hF
        | some r1 =>
          rw [hf] at hF
          have HF := Lib.hid hf
          have HHF := Lib.hid hF
          clear hf hF hx hy hd1 hd2 hl9 hi9 kl9 ki9
          cases r1 with
          | false =>
            go_wp2_with (first | (go_at_call 50; (with_reducible refine (H.out.go x y A9 B9 c9 d9 _ false ?s1 HL9.out ?s2 KL9.out HF.out).mono ?_); (case s1 => exact Kd.C_alloc (Kd.C_alloc HI9.out _) _); (case s2 => exact Kd.C_alloc (Kd.C_alloc KI9.out _) _); rintro e w2 ⟨rfl, hb2⟩; have HB2 := Lib.hid (Below.on HB.out (Below.of_alloc (Below.of_alloc hb2))); clear hb2))
            have hh := HHF.out
            simp only [Option.some.injEq] at hh
            subst hh
            go_ret
            exact ⟨rfl, HB2.out⟩
          | true =>
            go_wp2_with (first | (go_at_call 50; (with_reducible refine (H.out.go x y A9 B9 c9 d9 _ true ?s1 HL9.out ?s2 KL9.out HF.out).mono ?_); (case s1 => exact Kd.C_alloc (Kd.C_alloc HI9.out _) _); (case s2 => exact Kd.C_alloc (Kd.C_alloc KI9.out _) _); rintro e w2 ⟨rfl, hb2⟩; have HB2 := Lib.hid (Below.on HB.out (Below.of_alloc (Below.of_alloc hb2))); clear hb2))
            go_roundw
            case rel => exact ⟨j + 1, by go_num, by omega, HHF.out, HB2.out⟩
            case measure => simp [intOf]; omega
      · have hjl : j = l.length := by omega
        subst hjl
        rw [List.drop_length, HE.out, List.drop_length, sameL] at hF
        have hq3 : decide ((l.length : Int) < (l.length : Int)) = false := decide_eq_false (by omega)
        have HHF := Lib.hid hF
        clear hF
        go_wp2
        have hh := HHF.out
        simp only [Option.some.injEq] at hh
        subst hh
        go_ret
        exact ⟨rfl, HB.out⟩
  · rw [if_neg he] at h3
    obtain rfl := Option.some.inj h3
    have hq : ((l.length : Int) != (m.length : Int)) = true := bne_iff_ne.2 (by omega)
    clear h3
    go_enter Tryz.func81, Tryz.ntmps81
    go_wp2
    go_ret
    exact ⟨rfl, Below.refl _ _⟩
set_option maxHeartbeats 2000000 in
set_option maxRecDepth 100000 in
theorem same_kind (s t : TN) (A B : Option Addr) (c d : Nat) (W : World) (h : s.f0 ≠ t.f0) :
    Calls Tryz.prog 50 #[ndV s (.slice A s.f4.length c), ndV t (.slice B t.f4.length d)] W fun e W' => e = .returned (.bool false) ∧ Below W.heap.size W W' := by
  have hq : ((s.f0 : Int) == t.f0) = false := beq_eq_false_iff_ne.2 h
  clear h
  go_enter Tryz.func50, Tryz.ntmps50
  go_wp2
  go_ret
  exact ⟨rfl, below_alloc (below_alloc (Below.refl _ _) _) _⟩
set_option maxHeartbeats 2000000 in
set_option maxRecDepth 100000 in
theorem same_val (s t : TN) (A B : Option Addr) (c d : Nat) (W : World) (h : s.f0 = t.f0) (hv : valO s t = some false) (h1 : Kd.C k31 W A s.f4.length s.f4) (h2 : Kd.C k31 W B t.f4.length t.f4) :
    Calls Tryz.prog 50 #[ndV s (.slice A s.f4.length c), ndV t (.slice B t.f4.length d)] W fun e W' => e = .returned (.bool false) ∧ Below W.heap.size W W' := by
  have hq : ((s.f0 : Int) == t.f0) = true := beq_iff_eq.2 h
  unfold valO at hv
  have HV := Lib.hid hv
  have HA := Lib.hid h1
  have HT := Lib.hid h2
  clear h hv h1 h2
  go_enter Tryz.func50, Tryz.ntmps50
  go_wp2_with (first | (go_at_call 80; (with_reducible refine (value_Same.calls s.f1.f0 s.f1.f1 s.f1.f2 t.f1.f0 t.f1.f1 t.f1.f2 false _ HV.out).mono ?_); rintro e w2 ⟨rfl, hb⟩; have hb_ := Below.of_alloc (Below.of_alloc hb); have HB := Lib.hid hb_; have e1 := (z10 (blk_below (blk_at' (W.alloc (ndO s (.slice A s.f4.length c))) (ndO t (.slice B t.f4.length d)) (W.heap.size + 1) (by simp)) hb)).1; have e2 := (z10 (blk_below (blk_alloc (blk_new W (ndO s (.slice A s.f4.length c))) (ndO t (.slice B t.f4.length d))) hb)).1; have HA2 := Lib.hid (Kd.C_below HA.out hb_); have HT2 := Lib.hid (Kd.C_below HT.out hb_); clear hb hb_; obtain ⟨p0, p1, p2, p3, p4, p5, p6, p7, p8, p9⟩ := e1; obtain ⟨q0, q1, q2, q3, q4, q5, q6, q7, q8, q9⟩ := e2))
  go_ret
  exact ⟨rfl, HB.out⟩
set_option maxHeartbeats 2000000 in
set_option maxRecDepth 100000 in
theorem same_rect (s t : TN) (A B : Option Addr) (c d : Nat) (W : World) (h : s.f0 = t.f0) (hv : valO s t = some true) (h1 : Kd.C k31 W A s.f4.length s.f4) (h2 : Kd.C k31 W B t.f4.length t.f4) (hr : ((s.f2.f0.f0 == t.f2.f0.f0 && (s.f2.f0.f1 == t.f2.f0.f1)) && ((s.f2.f1.f0 == t.f2.f1.f0 && (s.f2.f1.f1 == t.f2.f1.f1)))) = false) :
    Calls Tryz.prog 50 #[ndV s (.slice A s.f4.length c), ndV t (.slice B t.f4.length d)] W fun e W' => e = .returned (.bool false) ∧ Below W.heap.size W W' := by
  have hq : ((s.f0 : Int) == t.f0) = true := beq_iff_eq.2 h
  unfold valO at hv
  have HV := Lib.hid hv
  have HA := Lib.hid h1
  have HT := Lib.hid h2
  clear h hv h1 h2
  go_enter Tryz.func50, Tryz.ntmps50
  go_wp2_with (first | (go_at_call 80; (with_reducible refine (value_Same.calls s.f1.f0 s.f1.f1 s.f1.f2 t.f1.f0 t.f1.f1 t.f1.f2 true _ HV.out).mono ?_); rintro e w2 ⟨rfl, hb⟩; have hb_ := Below.of_alloc (Below.of_alloc hb); have HB := Lib.hid hb_; have e1 := (z10 (blk_below (blk_at' (W.alloc (ndO s (.slice A s.f4.length c))) (ndO t (.slice B t.f4.length d)) (W.heap.size + 1) (by simp)) hb)).1; have e2 := (z10 (blk_below (blk_alloc (blk_new W (ndO s (.slice A s.f4.length c))) (ndO t (.slice B t.f4.length d))) hb)).1; have HA2 := Lib.hid (Kd.C_below HA.out hb_); have HT2 := Lib.hid (Kd.C_below HT.out hb_); clear hb hb_; obtain ⟨p0, p1, p2, p3, p4, p5, p6, p7, p8, p9⟩ := e1; obtain ⟨q0, q1, q2, q3, q4, q5, q6, q7, q8, q9⟩ := e2))
  go_ret
  exact ⟨by first | rfl | (simp [*]; done), HB.out⟩
set_option maxHeartbeats 2000000 in
set_option maxRecDepth 100000 in
theorem same_op (s t : TN) (A B : Option Addr) (c d : Nat) (W : World) (h : s.f0 = t.f0) (hv : valO s t = some true) (h1 : Kd.C k31 W A s.f4.length s.f4) (h2 : Kd.C k31 W B t.f4.length t.f4) (hr : ((s.f2.f0.f0 == t.f2.f0.f0 && (s.f2.f0.f1 == t.f2.f0.f1)) && ((s.f2.f1.f0 == t.f2.f1.f0 && (s.f2.f1.f1 == t.f2.f1.f1)))) = true) (ho : (s.f3.toList == t.f3.toList) = false) :
    Calls Tryz.prog 50 #[ndV s (.slice A s.f4.length c), ndV t (.slice B t.f4.length d)] W fun e W' => e = .returned (.bool false) ∧ Below W.heap.size W W' := by
  have hq : ((s.f0 : Int) == t.f0) = true := beq_iff_eq.2 h
  unfold valO at hv
  have HV := Lib.hid hv
  have HA := Lib.hid h1
  have HT := Lib.hid h2
  clear h hv h1 h2
  go_enter Tryz.func50, Tryz.ntmps50
  go_wp2_with (first | (go_at_call 80; (with_reducible refine (value_Same.calls s.f1.f0 s.f1.f1 s.f1.f2 t.f1.f0 t.f1.f1 t.f1.f2 true _ HV.out).mono ?_); rintro e w2 ⟨rfl, hb⟩; have hb_ := Below.of_alloc (Below.of_alloc hb); have HB := Lib.hid hb_; have e1 := (z10 (blk_below (blk_at' (W.alloc (ndO s (.slice A s.f4.length c))) (ndO t (.slice B t.f4.length d)) (W.heap.size + 1) (by simp)) hb)).1; have e2 := (z10 (blk_below (blk_alloc (blk_new W (ndO s (.slice A s.f4.length c))) (ndO t (.slice B t.f4.length d))) hb)).1; have HA2 := Lib.hid (Kd.C_below HA.out hb_); have HT2 := Lib.hid (Kd.C_below HT.out hb_); clear hb hb_; obtain ⟨p0, p1, p2, p3, p4, p5, p6, p7, p8, p9⟩ := e1; obtain ⟨q0, q1, q2, q3, q4, q5, q6, q7, q8, q9⟩ := e2))
  go_ret
  exact ⟨by first | rfl | (simp [*]; done), HB.out⟩
set_option maxHeartbeats 2000000 in
set_option maxRecDepth 100000 in
theorem same_args (s t : TN) (A B : Option Addr) (c d : Nat) (W : World) (h : s.f0 = t.f0) (hv : valO s t = some true) (h1 : Kd.C k31 W A s.f4.length s.f4) (h2 : Kd.C k31 W B t.f4.length t.f4) {k : Nat} (hk : SameC k) (r : Bool) (g1 : s.f4.length ≤ c) (g2 : t.f4.length ≤ d) (hr : ((s.f2.f0.f0 == t.f2.f0.f0 && (s.f2.f0.f1 == t.f2.f0.f1)) && ((s.f2.f1.f0 == t.f2.f1.f0 && (s.f2.f1.f1 == t.f2.f1.f1)))) = true) (ho : (s.f3.toList == t.f3.toList) = true) (h3 : (if s.f4.length = t.f4.length then sameL (sameF k) s.f4 t.f4 else some false) = some r) :
    Calls Tryz.prog 50 #[ndV s (.slice A s.f4.length c), ndV t (.slice B t.f4.length d)] W fun e W' => e = .returned (.bool r) ∧ Below W.heap.size W W' := by
  have hq : ((s.f0 : Int) == t.f0) = true := beq_iff_eq.2 h
  unfold valO at hv
  have HV := Lib.hid hv
  have HA := Lib.hid h1
  have HT := Lib.hid h2
  clear h hv h1 h2
  have HK := Lib.hid hk
  have HR := Lib.hid h3
  have HC1 := Lib.hid g1
  have HD1 := Lib.hid g2
  clear hk h3 g1 g2
  go_enter Tryz.func50, Tryz.ntmps50
  go_wp2_with (first | (go_at_call 80; (with_reducible refine (value_Same.calls s.f1.f0 s.f1.f1 s.f1.f2 t.f1.f0 t.f1.f1 t.f1.f2 true _ HV.out).mono ?_); rintro e w2 ⟨rfl, hb⟩; have hb_ := Below.of_alloc (Below.of_alloc hb); have HB := Lib.hid hb_; have e1 := (z10 (blk_below (blk_at' (W.alloc (ndO s (.slice A s.f4.length c))) (ndO t (.slice B t.f4.length d)) (W.heap.size + 1) (by simp)) hb)).1; have e2 := (z10 (blk_below (blk_alloc (blk_new W (ndO s (.slice A s.f4.length c))) (ndO t (.slice B t.f4.length d))) hb)).1; have HA2 := Lib.hid (Kd.C_below HA.out hb_); have HT2 := Lib.hid (Kd.C_below HT.out hb_); clear hb hb_; obtain ⟨p0, p1, p2, p3, p4, p5, p6, p7, p8, p9⟩ := e1; obtain ⟨q0, q1, q2, q3, q4, q5, q6, q7, q8, q9⟩ := e2) | (go_at_call 81; (with_reducible refine (equal_calls HK.out s.f4 t.f4 A B c d _ r HA2.out HC1.out HT2.out HD1.out HR.out).mono ?_); rintro e w3 ⟨rfl, hb⟩; have HB3 := Lib.hid (Below.on HB.out hb); clear hb))
  go_ret
  exact ⟨by first | rfl | (simp [*]; done), HB3.out⟩
theorem same_all : ∀ k, SameC k := by
  intro k
  induction k with
  | zero => intro s t A B c d W r h1 h2 h3 h4 h5; cases h5
  | succ k ih =>
    intro s t A B c d W r h1 h2 h3 h4 h5
    unfold sameF at h5
    by_cases e0 : s.f0 = t.f0
    · rw [if_pos e0] at h5
      cases ev : valO s t with
      | none => rw [ev] at h5; cases h5
      | some b =>
        rw [ev] at h5
        cases b with
        | false => cases h5; exact same_val s t A B c d W e0 ev h1 h3
        | true =>
          dsimp only at h5
          by_cases er : s.f2.f0.f0 = t.f2.f0.f0 ∧ s.f2.f0.f1 = t.f2.f0.f1 ∧ s.f2.f1.f0 = t.f2.f1.f0 ∧ s.f2.f1.f1 = t.f2.f1.f1
          · rw [if_pos er] at h5
            have hr : ((s.f2.f0.f0 == t.f2.f0.f0 && (s.f2.f0.f1 == t.f2.f0.f1)) && ((s.f2.f1.f0 == t.f2.f1.f0 && (s.f2.f1.f1 == t.f2.f1.f1)))) = true := by simp [er.1, er.2.1, er.2.2.1, er.2.2.2]
            by_cases eo : (s.f3.toList == t.f3.toList) = true
            · rw [if_pos eo] at h5
              exact same_args s t A B c d W e0 ev h1 h3 ih r h2 h4 hr eo h5
            · rw [if_neg eo] at h5
              cases h5
              exact same_op s t A B c d W e0 ev h1 h3 hr (by simpa using eo)
          · rw [if_neg er] at h5
            cases h5
            refine same_rect s t A B c d W e0 ev h1 h3 ?_
            rw [Bool.eq_false_iff]
            intro hh
            simp only [Bool.and_eq_true, beq_iff_eq] at hh
            exact er ⟨hh.1.1, hh.1.2, hh.2.1, hh.2.2⟩
    · rw [if_neg e0] at h5
      cases h5
      exact same_kind s t A B c d W e0
end Go.Proofs.YtpcnaoipenclnaaGreatDoor.P

namespace Go.Proofs.YtpcnaoipenclnaaGreatDoor.P
open Go.RowKit Go.Proofs.YtpcnaoipenclnaaGreatDoorW.PrintWords Go.Proofs.YtpcnaoipenclnaaGreatDoorW.PrintLast Go.Proofs.YtpcnaoipenclnaaGreatDoorW.PrintMore
set_option linter.unusedVariables false
set_option linter.unusedSimpArgs false
def tree_same.f (k : Nat) (a0_0 a0_1 a0_2 : Int) (a0_3 : ByteArray) (a0_4 a0_5 a0_6 a0_7 : Int) (a0_8 : ByteArray) (l0_9 : List S31) (a1_0 a1_1 a1_2 : Int) (a1_3 : ByteArray) (a1_4 a1_5 a1_6 a1_7 : Int) (a1_8 : ByteArray) (l1_9 : List S31) : Option Bool :=
  sameF k ⟨a0_0, ⟨a0_1, a0_2, a0_3⟩, ⟨⟨a0_4, a0_5⟩, ⟨a0_6, a0_7⟩⟩, a0_8, l0_9⟩ ⟨a1_0, ⟨a1_1, a1_2, a1_3⟩, ⟨⟨a1_4, a1_5⟩, ⟨a1_6, a1_7⟩⟩, a1_8, l1_9⟩
theorem tree_same.calls (k : Nat) (a0_0 a0_1 a0_2 : Int) (a0_3 : ByteArray) (a0_4 a0_5 a0_6 a0_7 : Int) (a0_8 : ByteArray) (A0_9 : Option Addr) (c0_9 : Nat) (l0_9 : List S31) (a1_0 a1_1 a1_2 : Int) (a1_3 : ByteArray) (a1_4 a1_5 a1_6 a1_7 : Int) (a1_8 : ByteArray) (A1_9 : Option Addr) (c1_9 : Nat) (l1_9 : List S31) (r : Bool) (w : World)
    (hr0_9 : Kd.C k31 w A0_9 l0_9.length l0_9) (hc0_9 : l0_9.length ≤ c0_9) (hr1_9 : Kd.C k31 w A1_9 l1_9.length l1_9) (hc1_9 : l1_9.length ≤ c1_9) (h : tree_same.f k a0_0 a0_1 a0_2 a0_3 a0_4 a0_5 a0_6 a0_7 a0_8 l0_9 a1_0 a1_1 a1_2 a1_3 a1_4 a1_5 a1_6 a1_7 a1_8 l1_9 = some r) :
    Calls Tryz.prog 50 #[.agg #[.int .i64 a0_0, .int .i64 a0_1, .int .i64 a0_2, .string a0_3, .int .i64 a0_4, .int .i64 a0_5, .int .i64 a0_6, .int .i64 a0_7, .string a0_8, .slice A0_9 l0_9.length c0_9], .agg #[.int .i64 a1_0, .int .i64 a1_1, .int .i64 a1_2, .string a1_3, .int .i64 a1_4, .int .i64 a1_5, .int .i64 a1_6, .int .i64 a1_7, .string a1_8, .slice A1_9 l1_9.length c1_9]] w fun e w' => e = .returned (.bool r) ∧ Below w.heap.size w w' :=
  same_all k ⟨a0_0, ⟨a0_1, a0_2, a0_3⟩, ⟨⟨a0_4, a0_5⟩, ⟨a0_6, a0_7⟩⟩, a0_8, l0_9⟩ ⟨a1_0, ⟨a1_1, a1_2, a1_3⟩, ⟨⟨a1_4, a1_5⟩, ⟨a1_6, a1_7⟩⟩, a1_8, l1_9⟩ A0_9 A1_9 c0_9 c1_9 w r hr0_9 hc0_9 hr1_9 hc1_9 h
theorem sameL_mono {f g : TN → TN → Option Bool} (h : ∀ a b r, f a b = some r → g a b = some r) : ∀ l m r, sameL f l m = some r → sameL g l m = some r := by
  intro l
  induction l with
  | nil => intro m r hr; cases m with | nil => exact hr | cons b m => exact hr
  | cons a l ih =>
    intro m r hr
    cases m with
    | nil => exact hr
    | cons b m =>
      rw [sameL] at hr ⊢
      cases e : f a b with
      | none => rw [e] at hr; cases hr
      | some x =>
        rw [h a b x e]
        rw [e] at hr
        cases x with
        | false => exact hr
        | true => exact ih m r hr
theorem sameF_mono : ∀ k a b r, sameF k a b = some r → sameF (k + 1) a b = some r := by
  intro k
  induction k with
  | zero => intro a b r h; cases h
  | succ k ih =>
    intro a b r h
    rw [sameF] at h ⊢
    by_cases e0 : a.f0 = b.f0
    · rw [if_pos e0] at h ⊢
      cases ev : valO a b with
      | none => rw [ev] at h; cases h
      | some x =>
        rw [ev] at h
        cases x with
        | false => exact h
        | true =>
          dsimp only at h ⊢
          by_cases er : a.f2.f0.f0 = b.f2.f0.f0 ∧ a.f2.f0.f1 = b.f2.f0.f1 ∧ a.f2.f1.f0 = b.f2.f1.f0 ∧ a.f2.f1.f1 = b.f2.f1.f1
          · rw [if_pos er] at h ⊢
            by_cases eo : (a.f3.toList == b.f3.toList) = true
            · rw [if_pos eo] at h ⊢
              by_cases el : a.f4.length = b.f4.length
              · rw [if_pos el] at h ⊢; exact sameL_mono ih _ _ _ h
              · rw [if_neg el] at h ⊢; exact h
            · rw [if_neg eo] at h ⊢; exact h
          · rw [if_neg er] at h ⊢; exact h
    · rw [if_neg e0] at h ⊢; exact h
theorem tree_same.mono : ∀ a0 a1 a2 a3 a4 a5 a6 a7 a8 a9 b0 b1 b2 b3 b4 b5 b6 b7 b8 b9 k, LeO (tree_same.f k a0 a1 a2 a3 a4 a5 a6 a7 a8 a9 b0 b1 b2 b3 b4 b5 b6 b7 b8 b9) (tree_same.f (k + 1) a0 a1 a2 a3 a4 a5 a6 a7 a8 a9 b0 b1 b2 b3 b4 b5 b6 b7 b8 b9) := fun _ _ _ _ _ _ _ _ _ _ _ _ _ _ _ _ _ _ _ _ k r h => sameF_mono k _ _ r h
end Go.Proofs.YtpcnaoipenclnaaGreatDoor.P

namespace Go.Proofs.YtpcnaoipenclnaaGreatDoor.P
open Go.RowKit Go.Proofs.YtpcnaoipenclnaaGreatDoorW.PrintWords Go.Proofs.YtpcnaoipenclnaaGreatDoorW.PrintLast Go.Proofs.YtpcnaoipenclnaaGreatDoorW.PrintMore
attribute [local go_sem] max2_int min2_int max_two min_two max_three min_three max_four min_four   -- for this text's walks alone
set_option linter.unusedVariables false
set_option linter.unusedSimpArgs false
def tree_Same.f (k : Nat) (a0_0 : Int) (a0_1 : Int) (a0_2 : Int) (a0_3 : ByteArray) (a0_4 : Int) (a0_5 : Int) (a0_6 : Int) (a0_7 : Int) (a0_8 : ByteArray) (l0_9 : List (S31)) (a1_0 : Int) (a1_1 : Int) (a1_2 : Int) (a1_3 : ByteArray) (a1_4 : Int) (a1_5 : Int) (a1_6 : Int) (a1_7 : Int) (a1_8 : ByteArray) (l1_9 : List (S31)) : Option (Bool) := (tree_small.f a0_0 a0_1 a0_2 a0_3 a0_4 a0_5 a0_6 a0_7 a0_8 l0_9).bind fun t456 => (if t456 = true then ((tree_small.f a1_0 a1_1 a1_2 a1_3 a1_4 a1_5 a1_6 a1_7 a1_8 l1_9).bind fun t457 => (if t457 = true then ((tree_same.f k a0_0 a0_1 a0_2 a0_3 a0_4 a0_5 a0_6 a0_7 a0_8 l0_9 a1_0 a1_1 a1_2 a1_3 a1_4 a1_5 a1_6 a1_7 a1_8 l1_9).bind fun t458 => (some t458)) else (some false))) else (some false))
theorem tree_Same.mono : ∀ a0 a1 a2 a3 a4 a5 a6 a7 a8 a9 a10 a11 a12 a13 a14 a15 a16 a17 a18 a19 k, LeO (tree_Same.f k a0 a1 a2 a3 a4 a5 a6 a7 a8 a9 a10 a11 a12 a13 a14 a15 a16 a17 a18 a19) (tree_Same.f (k + 1) a0 a1 a2 a3 a4 a5 a6 a7 a8 a9 a10 a11 a12 a13 a14 a15 a16 a17 a18 a19) := by
  intro a0 a1 a2 a3 a4 a5 a6 a7 a8 a9 a10 a11 a12 a13 a14 a15 a16 a17 a18 a19 k
  unfold tree_Same.f
  repeat' first
      | (with_reducible exact tree_same.mono _ _ _ _ _ _ _ _ _ _ _ _ _ _ _ _ _ _ _ _ _)
      | (with_reducible exact LeO.refl _)
      | (with_reducible exact LeO.none _)
      | (with_reducible refine LeO.ite ?_ ?_)
      | (with_reducible refine LeO.bind ?_ (fun _ => ?_))
      | exact tree_same.mono _ _ _ _ _ _ _ _ _ _ _ _ _ _ _ _ _ _ _ _ _
      | exact LeO.none _
      | refine LeO.ite ?_ ?_
      | refine LeO.bind ?_ (fun _ => ?_)
set_option maxHeartbeats 8000000 in
set_option maxRecDepth 100000 in
theorem tree_Same.calls (k : Nat) (a0_0 : Int) (a0_1 : Int) (a0_2 : Int) (a0_3 : ByteArray) (a0_4 : Int) (a0_5 : Int) (a0_6 : Int) (a0_7 : Int) (a0_8 : ByteArray) (A0_9 : Option Addr) (c0_9 : Nat) (l0_9 : List (S31)) (a1_0 : Int) (a1_1 : Int) (a1_2 : Int) (a1_3 : ByteArray) (a1_4 : Int) (a1_5 : Int) (a1_6 : Int) (a1_7 : Int) (a1_8 : ByteArray) (A1_9 : Option Addr) (c1_9 : Nat) (l1_9 : List (S31)) (r : Bool) (w : World) (hr0_9 : Kd.C k31 w A0_9 l0_9.length l0_9) (hc0_9 : l0_9.length ≤ c0_9) (hr1_9 : Kd.C k31 w A1_9 l1_9.length l1_9) (hc1_9 : l1_9.length ≤ c1_9) (h : tree_Same.f k a0_0 a0_1 a0_2 a0_3 a0_4 a0_5 a0_6 a0_7 a0_8 l0_9 a1_0 a1_1 a1_2 a1_3 a1_4 a1_5 a1_6 a1_7 a1_8 l1_9 = some r) :
    Calls Tryz.prog 19 #[.agg #[.int .i64 a0_0, .int .i64 a0_1, .int .i64 a0_2, .string a0_3, .int .i64 a0_4, .int .i64 a0_5, .int .i64 a0_6, .int .i64 a0_7, .string a0_8, .slice A0_9 l0_9.length c0_9], .agg #[.int .i64 a1_0, .int .i64 a1_1, .int .i64 a1_2, .string a1_3, .int .i64 a1_4, .int .i64 a1_5, .int .i64 a1_6, .int .i64 a1_7, .string a1_8, .slice A1_9 l1_9.length c1_9]] w fun e w' => e = .returned (.bool r) ∧ Below w.heap.size w w' := by
  have hu31 := Tryz.underlying31
  have HR0_9 := Aside0.mk hr0_9
  have HC0_9 := Aside0.mk hc0_9
  clear hr0_9 hc0_9
  have HR1_9 := Aside0.mk hr1_9
  have HC1_9 := Aside0.mk hc1_9
  clear hr1_9 hc1_9
  have HB := Aside0.mk (Below.refl w.heap.size w)
  have H : ((tree_small.f a0_0 a0_1 a0_2 a0_3 a0_4 a0_5 a0_6 a0_7 a0_8 l0_9).bind fun t456 => (if t456 = true then ((tree_small.f a1_0 a1_1 a1_2 a1_3 a1_4 a1_5 a1_6 a1_7 a1_8 l1_9).bind fun t457 => (if t457 = true then ((tree_same.f k a0_0 a0_1 a0_2 a0_3 a0_4 a0_5 a0_6 a0_7 a0_8 l0_9 a1_0 a1_1 a1_2 a1_3 a1_4 a1_5 a1_6 a1_7 a1_8 l1_9).bind fun t458 => (some t458)) else (some false))) else (some false))) = some r := h
  clear h
  replace H := Option.bind_eq_some_iff.mp H
  obtain ⟨t456, A30, H⟩ := H
  replace H : (if t456 = true then ((tree_small.f a1_0 a1_1 a1_2 a1_3 a1_4 a1_5 a1_6 a1_7 a1_8 l1_9).bind fun t457 => (if t457 = true then ((tree_same.f k a0_0 a0_1 a0_2 a0_3 a0_4 a0_5 a0_6 a0_7 a0_8 l0_9 a1_0 a1_1 a1_2 a1_3 a1_4 a1_5 a1_6 a1_7 a1_8 l1_9).bind fun t458 => (some t458)) else (some false))) else (some false)) = some r := H
  have A3 := Aside0.mk A30
  clear A30
  by_cases c4 : t456 = true
  · subst c4
    have H1 : ((tree_small.f a1_0 a1_1 a1_2 a1_3 a1_4 a1_5 a1_6 a1_7 a1_8 l1_9).bind fun t457 => (if t457 = true then ((tree_same.f k a0_0 a0_1 a0_2 a0_3 a0_4 a0_5 a0_6 a0_7 a0_8 l0_9 a1_0 a1_1 a1_2 a1_3 a1_4 a1_5 a1_6 a1_7 a1_8 l1_9).bind fun t458 => (some t458)) else (some false))) = some r := by rw [if_pos rfl] at H; exact H
    clear H
    have H := H1
    clear H1
    replace H := Option.bind_eq_some_iff.mp H
    obtain ⟨t457, A50, H⟩ := H
    replace H : (if t457 = true then ((tree_same.f k a0_0 a0_1 a0_2 a0_3 a0_4 a0_5 a0_6 a0_7 a0_8 l0_9 a1_0 a1_1 a1_2 a1_3 a1_4 a1_5 a1_6 a1_7 a1_8 l1_9).bind fun t458 => (some t458)) else (some false)) = some r := H
    have A5 := Aside0.mk A50
    clear A50
    by_cases c6 : t457 = true
    · subst c6
      have H1 : ((tree_same.f k a0_0 a0_1 a0_2 a0_3 a0_4 a0_5 a0_6 a0_7 a0_8 l0_9 a1_0 a1_1 a1_2 a1_3 a1_4 a1_5 a1_6 a1_7 a1_8 l1_9).bind fun t458 => (some t458)) = some r := by rw [if_pos rfl] at H; exact H
      clear H
      have H := H1
      clear H1
      replace H := Option.bind_eq_some_iff.mp H
      obtain ⟨t458, A70, H⟩ := H
      replace H : (some t458) = some r := H
      have A7 := Aside0.mk A70
      clear A70
      obtain rfl := Option.some.inj H
      go_enter Tryz.func19, Tryz.ntmps19
      go_wp2_with (first | ((with_reducible refine gate_dst (N := 2) rfl ?_); refine box_event ?hg (N := 2) ?hd (cs := #[.int .i64 a0_0, .int .i64 a0_1, .int .i64 a0_2, .string a0_3, .int .i64 a0_4, .int .i64 a0_5, .int .i64 a0_6, .int .i64 a0_7, .string a0_8, .slice A0_9 l0_9.length c0_9]) (t := 31) ?hr ?_; (case hd => rfl); (case hg => rfl); (case hr => first | (go_simp; done) | (go_simp; rfl)); intro gb454 hg w8 hbox hb; have n0_ := Aside0.mk (below_step (by repeat first | with_reducible exact HB.out | apply zS | exact HB.out) hb); have n1_ := Aside0.mk (hbox); have n2_ := Aside0.mk ((by rw [hg]; exact (below_size (by repeat first | with_reducible exact HB.out | apply zS | exact HB.out)) : w.heap.size ≤ gb454)); have n3_ := n2_; clear HB; have HB := n0_; have BK454 := n1_; have GW454 := n2_; have GE454 := n3_; clear n0_ n1_ n2_ n3_; clear hb hbox hg) | ((with_reducible refine gate_dst (N := 3) rfl ?_); refine box_event ?hg (N := 3) ?hd (cs := #[.int .i64 a1_0, .int .i64 a1_1, .int .i64 a1_2, .string a1_3, .int .i64 a1_4, .int .i64 a1_5, .int .i64 a1_6, .int .i64 a1_7, .string a1_8, .slice A1_9 l1_9.length c1_9]) (t := 31) ?hr ?_; (case hd => rfl); (case hg => rfl); (case hr => first | (go_simp; done) | (go_simp; rfl)); intro gb455 hg w9 hbox hb; have n0_ := Aside0.mk (blk_below (g := gb454) (o := .cells #[.int .i64 a0_0, .int .i64 a0_1, .int .i64 a0_2, .string a0_3, .int .i64 a0_4, .int .i64 a0_5, .int .i64 a0_6, .int .i64 a0_7, .string a0_8, .slice A0_9 l0_9.length c0_9] 31 (0, 0)) (zB BK454.out) hb); have n1_ := Aside0.mk (below_step (by repeat first | with_reducible exact HB.out | apply zS | refine below_set ?_ GE454.out | exact HB.out) hb); have n2_ := Aside0.mk (hbox); have n3_ := Aside0.mk ((by rw [hg]; exact (below_size (by repeat first | with_reducible exact HB.out | apply zS | refine below_set ?_ GE454.out | exact HB.out)) : w.heap.size ≤ gb455)); have n4_ := n3_; have n5_ := Aside0.mk ((by rw [hg]; exact Nat.ne_of_lt (blk_lt (g := gb454) (o := .cells #[.int .i64 a0_0, .int .i64 a0_1, .int .i64 a0_2, .string a0_3, .int .i64 a0_4, .int .i64 a0_5, .int .i64 a0_6, .int .i64 a0_7, .string a0_8, .slice A0_9 l0_9.length c0_9] 31 (0, 0)) (zB BK454.out)) : gb454 ≠ gb455)); have n6_ := Aside0.mk ((by rw [hg]; exact Nat.ne_of_gt (blk_lt (g := gb454) (o := .cells #[.int .i64 a0_0, .int .i64 a0_1, .int .i64 a0_2, .string a0_3, .int .i64 a0_4, .int .i64 a0_5, .int .i64 a0_6, .int .i64 a0_7, .string a0_8, .slice A0_9 l0_9.length c0_9] 31 (0, 0)) (zB BK454.out)) : gb455 ≠ gb454)); clear BK454; clear HB; have BK454 := n0_; have HB := n1_; have BK455 := n2_; have GW455 := n3_; have GE455 := n4_; have NB454_455 := n5_; have NB455_454 := n6_; clear n0_ n1_ n2_ n3_ n4_ n5_ n6_; clear hb hbox hg; have hnb10 := NB454_455.out; have hnc10 := NB455_454.out; obtain ⟨hcz11_0, hcz11_1, hcz11_2, hcz11_3, hcz11_4, hcz11_5, hcz11_6, hcz11_7, hcz11_8, hcz11_9, hfz11_0, hfz11_1, hfz11_2, hfz11_3, hfz11_4, hfz11_5, hfz11_6, hfz11_7, hfz11_8, hfz11_9⟩ := zC10 BK454.out) | ((with_reducible refine gate_callee (f := 47) rfl ?_); refine goesL_ (some 6) rfl rfl Tryz.func47 (by kernel_rfl) rfl #[.agg #[.int .i64 a0_0, .int .i64 a0_1, .int .i64 a0_2, .string a0_3, .int .i64 a0_4, .int .i64 a0_5, .int .i64 a0_6, .int .i64 a0_7, .string a0_8, .slice A0_9 l0_9.length c0_9]] rfl (by (try simp only [List.map_toArray, List.map_cons, List.map_nil]); first | done | rfl | (simp only [List.length_drop, List.length_take]; rfl)) ?_; (with_reducible refine (tree_small.calls a0_0 a0_1 a0_2 a0_3 a0_4 a0_5 a0_6 a0_7 a0_8 _ _ l0_9 true _ ?side1 ?side2 A3.out).mono ?_); (case side1 => repeat (first | exact (Kd.C_below HR0_9.out HB.out) | (with_reducible refine Kd.C_alloc ?_ _) | (with_reducible refine Kd.C_drewN ?_ _) | (with_reducible refine Kd.C_drew ?_))); (case side2 => exact HC0_9.out); rintro e w12 ⟨rfl, hb⟩; refine ⟨_, rfl, ?_⟩; have n0_ := Aside0.mk (blk_below (g := gb454) (o := .cells #[.int .i64 a0_0, .int .i64 a0_1, .int .i64 a0_2, .string a0_3, .int .i64 a0_4, .int .i64 a0_5, .int .i64 a0_6, .int .i64 a0_7, .string a0_8, .slice A0_9 l0_9.length c0_9] 31 (0, 0)) (zB BK454.out) hb); have n1_ := Aside0.mk (blk_below (g := gb455) (o := .cells #[.int .i64 a1_0, .int .i64 a1_1, .int .i64 a1_2, .string a1_3, .int .i64 a1_4, .int .i64 a1_5, .int .i64 a1_6, .int .i64 a1_7, .string a1_8, .slice A1_9 l1_9.length c1_9] 31 (0, 0)) (zB BK455.out) hb); have n2_ := Aside0.mk (below_step (by repeat first | with_reducible exact HB.out | apply zS | refine below_set ?_ GE454.out | refine below_set ?_ GE455.out | exact HB.out) hb); clear BK454; clear BK455; clear HB; have BK454 := n0_; have BK455 := n1_; have HB := n2_; clear n0_ n1_ n2_; (try clear hb); (try clear hb2); (try clear hk); (try clear hi); obtain ⟨hcz13_0, hcz13_1, hcz13_2, hcz13_3, hcz13_4, hcz13_5, hcz13_6, hcz13_7, hcz13_8, hcz13_9, hfz13_0, hfz13_1, hfz13_2, hfz13_3, hfz13_4, hfz13_5, hfz13_6, hfz13_7, hfz13_8, hfz13_9⟩ := zC10 BK455.out) | (go_at_call 47; (with_reducible refine (tree_small.calls a1_0 a1_1 a1_2 a1_3 a1_4 a1_5 a1_6 a1_7 a1_8 _ _ l1_9 true _ ?side1 ?side2 A5.out).mono ?_); (case side1 => repeat (first | exact (Kd.C_below HR1_9.out HB.out) | (with_reducible refine Kd.C_alloc ?_ _) | (with_reducible refine Kd.C_drewN ?_ _) | (with_reducible refine Kd.C_drew ?_))); (case side2 => exact HC1_9.out); rintro e w14 ⟨rfl, hb⟩; have n0_ := Aside0.mk (blk_below (g := gb454) (o := .cells #[.int .i64 a0_0, .int .i64 a0_1, .int .i64 a0_2, .string a0_3, .int .i64 a0_4, .int .i64 a0_5, .int .i64 a0_6, .int .i64 a0_7, .string a0_8, .slice A0_9 l0_9.length c0_9] 31 (0, 0)) (zB BK454.out) hb); have n1_ := Aside0.mk (blk_below (g := gb455) (o := .cells #[.int .i64 a1_0, .int .i64 a1_1, .int .i64 a1_2, .string a1_3, .int .i64 a1_4, .int .i64 a1_5, .int .i64 a1_6, .int .i64 a1_7, .string a1_8, .slice A1_9 l1_9.length c1_9] 31 (0, 0)) (zB BK455.out) hb); have n2_ := Aside0.mk (below_step (by repeat first | with_reducible exact HB.out | apply zS | refine below_set ?_ GE454.out | refine below_set ?_ GE455.out | exact HB.out) hb); clear BK454; clear BK455; clear HB; have BK454 := n0_; have BK455 := n1_; have HB := n2_; clear n0_ n1_ n2_; (try clear hb); (try clear hb2); (try clear hk); (try clear hi); obtain ⟨hcz15_0, hcz15_1, hcz15_2, hcz15_3, hcz15_4, hcz15_5, hcz15_6, hcz15_7, hcz15_8, hcz15_9, hfz15_0, hfz15_1, hfz15_2, hfz15_3, hfz15_4, hfz15_5, hfz15_6, hfz15_7, hfz15_8, hfz15_9⟩ := zC10 BK454.out; obtain ⟨hcz16_0, hcz16_1, hcz16_2, hcz16_3, hcz16_4, hcz16_5, hcz16_6, hcz16_7, hcz16_8, hcz16_9, hfz16_0, hfz16_1, hfz16_2, hfz16_3, hfz16_4, hfz16_5, hfz16_6, hfz16_7, hfz16_8, hfz16_9⟩ := zC10 BK455.out) | (go_at_call 50; (with_reducible refine (tree_same.calls k a0_0 a0_1 a0_2 a0_3 a0_4 a0_5 a0_6 a0_7 a0_8 _ _ l0_9 a1_0 a1_1 a1_2 a1_3 a1_4 a1_5 a1_6 a1_7 a1_8 _ _ l1_9 t458 _ ?side1 ?side2 ?side3 ?side4 A7.out).mono ?_); (case side1 => repeat (first | exact (Kd.C_below HR0_9.out HB.out) | (with_reducible refine Kd.C_alloc ?_ _) | (with_reducible refine Kd.C_drewN ?_ _) | (with_reducible refine Kd.C_drew ?_))); (case side2 => exact HC0_9.out); (case side3 => repeat (first | exact (Kd.C_below HR1_9.out HB.out) | (with_reducible refine Kd.C_alloc ?_ _) | (with_reducible refine Kd.C_drewN ?_ _) | (with_reducible refine Kd.C_drew ?_))); (case side4 => exact HC1_9.out); rintro e w17 ⟨rfl, hb⟩; have n0_ := Aside0.mk (blk_below (g := gb454) (o := .cells #[.int .i64 a0_0, .int .i64 a0_1, .int .i64 a0_2, .string a0_3, .int .i64 a0_4, .int .i64 a0_5, .int .i64 a0_6, .int .i64 a0_7, .string a0_8, .slice A0_9 l0_9.length c0_9] 31 (0, 0)) (zB BK454.out) hb); have n1_ := Aside0.mk (blk_below (g := gb455) (o := .cells #[.int .i64 a1_0, .int .i64 a1_1, .int .i64 a1_2, .string a1_3, .int .i64 a1_4, .int .i64 a1_5, .int .i64 a1_6, .int .i64 a1_7, .string a1_8, .slice A1_9 l1_9.length c1_9] 31 (0, 0)) (zB BK455.out) hb); have n2_ := Aside0.mk (below_step (by repeat first | with_reducible exact HB.out | apply zS | refine below_set ?_ GE454.out | refine below_set ?_ GE455.out | exact HB.out) hb); clear BK454; clear BK455; clear HB; have BK454 := n0_; have BK455 := n1_; have HB := n2_; clear n0_ n1_ n2_; (try clear hb); (try clear hb2); (try clear hk); (try clear hi)))
      go_ret
      exact ⟨by first | rfl | (simp [errW_none, errW_some] <;> rfl) | (simp [*, errW_none, errW_some] <;> rfl), by repeat first | with_reducible exact HB.out | apply zS | refine below_set ?_ GE454.out | refine below_set ?_ GE455.out | exact HB.out⟩
    · replace c6 := Bool.eq_false_iff.mpr c6
      subst c6
      have H1 : (some false) = some r := by rw [if_neg (show ¬ (false = true) by decide)] at H; exact H
      clear H
      have H := H1
      clear H1
      obtain rfl := Option.some.inj H
      go_enter Tryz.func19, Tryz.ntmps19
      go_wp2_with (first | ((with_reducible refine gate_dst (N := 2) rfl ?_); refine box_event ?hg (N := 2) ?hd (cs := #[.int .i64 a0_0, .int .i64 a0_1, .int .i64 a0_2, .string a0_3, .int .i64 a0_4, .int .i64 a0_5, .int .i64 a0_6, .int .i64 a0_7, .string a0_8, .slice A0_9 l0_9.length c0_9]) (t := 31) ?hr ?_; (case hd => rfl); (case hg => rfl); (case hr => first | (go_simp; done) | (go_simp; rfl)); intro gb454 hg w18 hbox hb; have n0_ := Aside0.mk (below_step (by repeat first | with_reducible exact HB.out | apply zS | exact HB.out) hb); have n1_ := Aside0.mk (hbox); have n2_ := Aside0.mk ((by rw [hg]; exact (below_size (by repeat first | with_reducible exact HB.out | apply zS | exact HB.out)) : w.heap.size ≤ gb454)); have n3_ := n2_; clear HB; have HB := n0_; have BK454 := n1_; have GW454 := n2_; have GE454 := n3_; clear n0_ n1_ n2_ n3_; clear hb hbox hg) | ((with_reducible refine gate_dst (N := 3) rfl ?_); refine box_event ?hg (N := 3) ?hd (cs := #[.int .i64 a1_0, .int .i64 a1_1, .int .i64 a1_2, .string a1_3, .int .i64 a1_4, .int .i64 a1_5, .int .i64 a1_6, .int .i64 a1_7, .string a1_8, .slice A1_9 l1_9.length c1_9]) (t := 31) ?hr ?_; (case hd => rfl); (case hg => rfl); (case hr => first | (go_simp; done) | (go_simp; rfl)); intro gb455 hg w19 hbox hb; have n0_ := Aside0.mk (blk_below (g := gb454) (o := .cells #[.int .i64 a0_0, .int .i64 a0_1, .int .i64 a0_2, .string a0_3, .int .i64 a0_4, .int .i64 a0_5, .int .i64 a0_6, .int .i64 a0_7, .string a0_8, .slice A0_9 l0_9.length c0_9] 31 (0, 0)) (zB BK454.out) hb); have n1_ := Aside0.mk (below_step (by repeat first | with_reducible exact HB.out | apply zS | refine below_set ?_ GE454.out | exact HB.out) hb); have n2_ := Aside0.mk (hbox); have n3_ := Aside0.mk ((by rw [hg]; exact (below_size (by repeat first | with_reducible exact HB.out | apply zS | refine below_set ?_ GE454.out | exact HB.out)) : w.heap.size ≤ gb455)); have n4_ := n3_; have n5_ := Aside0.mk ((by rw [hg]; exact Nat.ne_of_lt (blk_lt (g := gb454) (o := .cells #[.int .i64 a0_0, .int .i64 a0_1, .int .i64 a0_2, .string a0_3, .int .i64 a0_4, .int .i64 a0_5, .int .i64 a0_6, .int .i64 a0_7, .string a0_8, .slice A0_9 l0_9.length c0_9] 31 (0, 0)) (zB BK454.out)) : gb454 ≠ gb455)); have n6_ := Aside0.mk ((by rw [hg]; exact Nat.ne_of_gt (blk_lt (g := gb454) (o := .cells #[.int .i64 a0_0, .int .i64 a0_1, .int .i64 a0_2, .string a0_3, .int .i64 a0_4, .int .i64 a0_5, .int .i64 a0_6, .int .i64 a0_7, .string a0_8, .slice A0_9 l0_9.length c0_9] 31 (0, 0)) (zB BK454.out)) : gb455 ≠ gb454)); clear BK454; clear HB; have BK454 := n0_; have HB := n1_; have BK455 := n2_; have GW455 := n3_; have GE455 := n4_; have NB454_455 := n5_; have NB455_454 := n6_; clear n0_ n1_ n2_ n3_ n4_ n5_ n6_; clear hb hbox hg; have hnb20 := NB454_455.out; have hnc20 := NB455_454.out; obtain ⟨hcz21_0, hcz21_1, hcz21_2, hcz21_3, hcz21_4, hcz21_5, hcz21_6, hcz21_7, hcz21_8, hcz21_9, hfz21_0, hfz21_1, hfz21_2, hfz21_3, hfz21_4, hfz21_5, hfz21_6, hfz21_7, hfz21_8, hfz21_9⟩ := zC10 BK454.out) | ((with_reducible refine gate_callee (f := 47) rfl ?_); refine goesL_ (some 6) rfl rfl Tryz.func47 (by kernel_rfl) rfl #[.agg #[.int .i64 a0_0, .int .i64 a0_1, .int .i64 a0_2, .string a0_3, .int .i64 a0_4, .int .i64 a0_5, .int .i64 a0_6, .int .i64 a0_7, .string a0_8, .slice A0_9 l0_9.length c0_9]] rfl (by (try simp only [List.map_toArray, List.map_cons, List.map_nil]); first | done | rfl | (simp only [List.length_drop, List.length_take]; rfl)) ?_; (with_reducible refine (tree_small.calls a0_0 a0_1 a0_2 a0_3 a0_4 a0_5 a0_6 a0_7 a0_8 _ _ l0_9 true _ ?side1 ?side2 A3.out).mono ?_); (case side1 => repeat (first | exact (Kd.C_below HR0_9.out HB.out) | (with_reducible refine Kd.C_alloc ?_ _) | (with_reducible refine Kd.C_drewN ?_ _) | (with_reducible refine Kd.C_drew ?_))); (case side2 => exact HC0_9.out); rintro e w22 ⟨rfl, hb⟩; refine ⟨_, rfl, ?_⟩; have n0_ := Aside0.mk (blk_below (g := gb454) (o := .cells #[.int .i64 a0_0, .int .i64 a0_1, .int .i64 a0_2, .string a0_3, .int .i64 a0_4, .int .i64 a0_5, .int .i64 a0_6, .int .i64 a0_7, .string a0_8, .slice A0_9 l0_9.length c0_9] 31 (0, 0)) (zB BK454.out) hb); have n1_ := Aside0.mk (blk_below (g := gb455) (o := .cells #[.int .i64 a1_0, .int .i64 a1_1, .int .i64 a1_2, .string a1_3, .int .i64 a1_4, .int .i64 a1_5, .int .i64 a1_6, .int .i64 a1_7, .string a1_8, .slice A1_9 l1_9.length c1_9] 31 (0, 0)) (zB BK455.out) hb); have n2_ := Aside0.mk (below_step (by repeat first | with_reducible exact HB.out | apply zS | refine below_set ?_ GE454.out | refine below_set ?_ GE455.out | exact HB.out) hb); clear BK454; clear BK455; clear HB; have BK454 := n0_; have BK455 := n1_; have HB := n2_; clear n0_ n1_ n2_; (try clear hb); (try clear hb2); (try clear hk); (try clear hi); obtain ⟨hcz23_0, hcz23_1, hcz23_2, hcz23_3, hcz23_4, hcz23_5, hcz23_6, hcz23_7, hcz23_8, hcz23_9, hfz23_0, hfz23_1, hfz23_2, hfz23_3, hfz23_4, hfz23_5, hfz23_6, hfz23_7, hfz23_8, hfz23_9⟩ := zC10 BK455.out) | (go_at_call 47; (with_reducible refine (tree_small.calls a1_0 a1_1 a1_2 a1_3 a1_4 a1_5 a1_6 a1_7 a1_8 _ _ l1_9 false _ ?side1 ?side2 A5.out).mono ?_); (case side1 => repeat (first | exact (Kd.C_below HR1_9.out HB.out) | (with_reducible refine Kd.C_alloc ?_ _) | (with_reducible refine Kd.C_drewN ?_ _) | (with_reducible refine Kd.C_drew ?_))); (case side2 => exact HC1_9.out); rintro e w24 ⟨rfl, hb⟩; have n0_ := Aside0.mk (blk_below (g := gb454) (o := .cells #[.int .i64 a0_0, .int .i64 a0_1, .int .i64 a0_2, .string a0_3, .int .i64 a0_4, .int .i64 a0_5, .int .i64 a0_6, .int .i64 a0_7, .string a0_8, .slice A0_9 l0_9.length c0_9] 31 (0, 0)) (zB BK454.out) hb); have n1_ := Aside0.mk (blk_below (g := gb455) (o := .cells #[.int .i64 a1_0, .int .i64 a1_1, .int .i64 a1_2, .string a1_3, .int .i64 a1_4, .int .i64 a1_5, .int .i64 a1_6, .int .i64 a1_7, .string a1_8, .slice A1_9 l1_9.length c1_9] 31 (0, 0)) (zB BK455.out) hb); have n2_ := Aside0.mk (below_step (by repeat first | with_reducible exact HB.out | apply zS | refine below_set ?_ GE454.out | refine below_set ?_ GE455.out | exact HB.out) hb); clear BK454; clear BK455; clear HB; have BK454 := n0_; have BK455 := n1_; have HB := n2_; clear n0_ n1_ n2_; (try clear hb); (try clear hb2); (try clear hk); (try clear hi)))
      go_ret
      exact ⟨by first | rfl | (simp [errW_none, errW_some] <;> rfl) | (simp [*, errW_none, errW_some] <;> rfl), by repeat first | with_reducible exact HB.out | apply zS | refine below_set ?_ GE454.out | refine below_set ?_ GE455.out | exact HB.out⟩
  · replace c4 := Bool.eq_false_iff.mpr c4
    subst c4
    have H1 : (some false) = some r := by rw [if_neg (show ¬ (false = true) by decide)] at H; exact H
    clear H
    have H := H1
    clear H1
    obtain rfl := Option.some.inj H
    go_enter Tryz.func19, Tryz.ntmps19
    go_wp2_with (first | ((with_reducible refine gate_dst (N := 2) rfl ?_); refine box_event ?hg (N := 2) ?hd (cs := #[.int .i64 a0_0, .int .i64 a0_1, .int .i64 a0_2, .string a0_3, .int .i64 a0_4, .int .i64 a0_5, .int .i64 a0_6, .int .i64 a0_7, .string a0_8, .slice A0_9 l0_9.length c0_9]) (t := 31) ?hr ?_; (case hd => rfl); (case hg => rfl); (case hr => first | (go_simp; done) | (go_simp; rfl)); intro gb454 hg w25 hbox hb; have n0_ := Aside0.mk (below_step (by repeat first | with_reducible exact HB.out | apply zS | exact HB.out) hb); have n1_ := Aside0.mk (hbox); have n2_ := Aside0.mk ((by rw [hg]; exact (below_size (by repeat first | with_reducible exact HB.out | apply zS | exact HB.out)) : w.heap.size ≤ gb454)); have n3_ := n2_; clear HB; have HB := n0_; have BK454 := n1_; have GW454 := n2_; have GE454 := n3_; clear n0_ n1_ n2_ n3_; clear hb hbox hg) | ((with_reducible refine gate_dst (N := 3) rfl ?_); refine box_event ?hg (N := 3) ?hd (cs := #[.int .i64 a1_0, .int .i64 a1_1, .int .i64 a1_2, .string a1_3, .int .i64 a1_4, .int .i64 a1_5, .int .i64 a1_6, .int .i64 a1_7, .string a1_8, .slice A1_9 l1_9.length c1_9]) (t := 31) ?hr ?_; (case hd => rfl); (case hg => rfl); (case hr => first | (go_simp; done) | (go_simp; rfl)); intro gb455 hg w26 hbox hb; have n0_ := Aside0.mk (blk_below (g := gb454) (o := .cells #[.int .i64 a0_0, .int .i64 a0_1, .int .i64 a0_2, .string a0_3, .int .i64 a0_4, .int .i64 a0_5, .int .i64 a0_6, .int .i64 a0_7, .string a0_8, .slice A0_9 l0_9.length c0_9] 31 (0, 0)) (zB BK454.out) hb); have n1_ := Aside0.mk (below_step (by repeat first | with_reducible exact HB.out | apply zS | refine below_set ?_ GE454.out | exact HB.out) hb); have n2_ := Aside0.mk (hbox); have n3_ := Aside0.mk ((by rw [hg]; exact (below_size (by repeat first | with_reducible exact HB.out | apply zS | refine below_set ?_ GE454.out | exact HB.out)) : w.heap.size ≤ gb455)); have n4_ := n3_; have n5_ := Aside0.mk ((by rw [hg]; exact Nat.ne_of_lt (blk_lt (g := gb454) (o := .cells #[.int .i64 a0_0, .int .i64 a0_1, .int .i64 a0_2, .string a0_3, .int .i64 a0_4, .int .i64 a0_5, .int .i64 a0_6, .int .i64 a0_7, .string a0_8, .slice A0_9 l0_9.length c0_9] 31 (0, 0)) (zB BK454.out)) : gb454 ≠ gb455)); have n6_ := Aside0.mk ((by rw [hg]; exact Nat.ne_of_gt (blk_lt (g := gb454) (o := .cells #[.int .i64 a0_0, .int .i64 a0_1, .int .i64 a0_2, .string a0_3, .int .i64 a0_4, .int .i64 a0_5, .int .i64 a0_6, .int .i64 a0_7, .string a0_8, .slice A0_9 l0_9.length c0_9] 31 (0, 0)) (zB BK454.out)) : gb455 ≠ gb454)); clear BK454; clear HB; have BK454 := n0_; have HB := n1_; have BK455 := n2_; have GW455 := n3_; have GE455 := n4_; have NB454_455 := n5_; have NB455_454 := n6_; clear n0_ n1_ n2_ n3_ n4_ n5_ n6_; clear hb hbox hg; have hnb27 := NB454_455.out; have hnc27 := NB455_454.out; obtain ⟨hcz28_0, hcz28_1, hcz28_2, hcz28_3, hcz28_4, hcz28_5, hcz28_6, hcz28_7, hcz28_8, hcz28_9, hfz28_0, hfz28_1, hfz28_2, hfz28_3, hfz28_4, hfz28_5, hfz28_6, hfz28_7, hfz28_8, hfz28_9⟩ := zC10 BK454.out) | ((with_reducible refine gate_callee (f := 47) rfl ?_); refine goesL_ (some 6) rfl rfl Tryz.func47 (by kernel_rfl) rfl #[.agg #[.int .i64 a0_0, .int .i64 a0_1, .int .i64 a0_2, .string a0_3, .int .i64 a0_4, .int .i64 a0_5, .int .i64 a0_6, .int .i64 a0_7, .string a0_8, .slice A0_9 l0_9.length c0_9]] rfl (by (try simp only [List.map_toArray, List.map_cons, List.map_nil]); first | done | rfl | (simp only [List.length_drop, List.length_take]; rfl)) ?_; (with_reducible refine (tree_small.calls a0_0 a0_1 a0_2 a0_3 a0_4 a0_5 a0_6 a0_7 a0_8 _ _ l0_9 false _ ?side1 ?side2 A3.out).mono ?_); (case side1 => repeat (first | exact (Kd.C_below HR0_9.out HB.out) | (with_reducible refine Kd.C_alloc ?_ _) | (with_reducible refine Kd.C_drewN ?_ _) | (with_reducible refine Kd.C_drew ?_))); (case side2 => exact HC0_9.out); rintro e w29 ⟨rfl, hb⟩; refine ⟨_, rfl, ?_⟩; have n0_ := Aside0.mk (blk_below (g := gb454) (o := .cells #[.int .i64 a0_0, .int .i64 a0_1, .int .i64 a0_2, .string a0_3, .int .i64 a0_4, .int .i64 a0_5, .int .i64 a0_6, .int .i64 a0_7, .string a0_8, .slice A0_9 l0_9.length c0_9] 31 (0, 0)) (zB BK454.out) hb); have n1_ := Aside0.mk (blk_below (g := gb455) (o := .cells #[.int .i64 a1_0, .int .i64 a1_1, .int .i64 a1_2, .string a1_3, .int .i64 a1_4, .int .i64 a1_5, .int .i64 a1_6, .int .i64 a1_7, .string a1_8, .slice A1_9 l1_9.length c1_9] 31 (0, 0)) (zB BK455.out) hb); have n2_ := Aside0.mk (below_step (by repeat first | with_reducible exact HB.out | apply zS | refine below_set ?_ GE454.out | refine below_set ?_ GE455.out | exact HB.out) hb); clear BK454; clear BK455; clear HB; have BK454 := n0_; have BK455 := n1_; have HB := n2_; clear n0_ n1_ n2_; (try clear hb); (try clear hb2); (try clear hk); (try clear hi)))
    go_ret
    exact ⟨by first | rfl | (simp [errW_none, errW_some] <;> rfl) | (simp [*, errW_none, errW_some] <;> rfl), by repeat first | with_reducible exact HB.out | apply zS | refine below_set ?_ GE454.out | refine below_set ?_ GE455.out | exact HB.out⟩
end Go.Proofs.YtpcnaoipenclnaaGreatDoor.P

namespace Go.Proofs.YtpcnaoipenclnaaGreatDoor.P
open Go.RowKit Go.Proofs.YtpcnaoipenclnaaGreatDoorW.PrintWords Go.Proofs.YtpcnaoipenclnaaGreatDoorW.PrintLast Go.Proofs.YtpcnaoipenclnaaGreatDoorW.PrintMore
attribute [local go_sem] max2_int min2_int max_two min_two max_three min_three max_four min_four   -- for this text's walks alone
set_option linter.unusedVariables false
set_option linter.unusedSimpArgs false
def pannierlaw05_TreeArgs.l0 : Nat → Int → Int → ByteArray → ByteArray → Int → Option (Bool)
  | 0, _, _, _, _, _ => none
  | k + 1, x1, x5, x6, x7, x8 => if x8 < x5 then (if x8 > 0 then (if x6.size + 1 ≤ 9223372036854775807 then (if x7.size + 3 ≤ 9223372036854775807 then ((some (([(48 + ((Int.tmod (wrap64 ((wrap64 (x1)) + x8)) 10) % 256)) % 256] : List Int) : List Int)).bind fun y499 => (if (x6 ++ (⟨#[44]⟩ : ByteArray)).size + (strOfNums y499).size ≤ 9223372036854775807 then (if 1 + (strOfNums y499).size ≤ 9223372036854775807 then (if ((⟨#[40]⟩ : ByteArray) ++ (strOfNums y499)).size + 2 ≤ 9223372036854775807 then (if (x7 ++ (⟨#[32, 44, 32]⟩ : ByteArray)).size + (((⟨#[40]⟩ : ByteArray) ++ (strOfNums y499)) ++ (⟨#[32, 41]⟩ : ByteArray)).size ≤ 9223372036854775807 then (pannierlaw05_TreeArgs.l0 k x1 x5 ((x6 ++ (⟨#[44]⟩ : ByteArray)) ++ (strOfNums y499)) ((x7 ++ (⟨#[32, 44, 32]⟩ : ByteArray)) ++ (((⟨#[40]⟩ : ByteArray) ++ (strOfNums y499)) ++ (⟨#[32, 41]⟩ : ByteArray))) (wrap64 (x8 + 1))) else (none)) else (none)) else (none)) else (none))) else (none)) else (none)) else ((some (([(48 + ((Int.tmod (wrap64 ((wrap64 (x1)) + x8)) 10) % 256)) % 256] : List Int) : List Int)).bind fun y502 => (if x6.size + (strOfNums y502).size ≤ 9223372036854775807 then (if 1 + (strOfNums y502).size ≤ 9223372036854775807 then (if ((⟨#[40]⟩ : ByteArray) ++ (strOfNums y502)).size + 2 ≤ 9223372036854775807 then (if x7.size + (((⟨#[40]⟩ : ByteArray) ++ (strOfNums y502)) ++ (⟨#[32, 41]⟩ : ByteArray)).size ≤ 9223372036854775807 then (pannierlaw05_TreeArgs.l0 k x1 x5 (x6 ++ (strOfNums y502)) (x7 ++ (((⟨#[40]⟩ : ByteArray) ++ (strOfNums y502)) ++ (⟨#[32, 41]⟩ : ByteArray))) (wrap64 (x8 + 1))) else (none)) else (none)) else (none)) else (none)))) else (if x6.size + 1 ≤ 9223372036854775807 then ((tree_Parse.f k (x6 ++ (⟨#[41]⟩ : ByteArray))).bind fun bt505 => (if x7.size + 1 ≤ 9223372036854775807 then ((tree_Parse.f k (x7 ++ (⟨#[41]⟩ : ByteArray))).bind fun bt520 => (if x5 > 10 then (if bt505.2.2.2.2.2.2.2.2.2.2.2 = 13 then (if bt520.2.2.2.2.2.2.2.2.2.2.2 = 13 then ((pannierlaw05_wakes.f k).bind fun t535 => (some t535)) else (none)) else (none)) else (if bt505.2.2.2.2.2.2.2.2.2.2.2 = 0 then (if bt520.2.2.2.2.2.2.2.2.2.2.2 = 0 then (if bt505.1 = 6 then (if (bt505.2.2.2.2.2.2.2.2.2.1.length : Int) = x5 then (if bt505.2.2.2.2.2.2.2.2.1.toList = ([83, 85, 77] : List UInt8) then ((tree_Same.f k bt505.1 bt505.2.1 bt505.2.2.1 bt505.2.2.2.1 bt505.2.2.2.2.1 bt505.2.2.2.2.2.1 bt505.2.2.2.2.2.2.1 bt505.2.2.2.2.2.2.2.1 bt505.2.2.2.2.2.2.2.2.1 bt505.2.2.2.2.2.2.2.2.2.1 bt520.1 bt520.2.1 bt520.2.2.1 bt520.2.2.2.1 bt520.2.2.2.2.1 bt520.2.2.2.2.2.1 bt520.2.2.2.2.2.2.1 bt520.2.2.2.2.2.2.2.1 bt520.2.2.2.2.2.2.2.2.1 bt520.2.2.2.2.2.2.2.2.2.1).bind fun t536 => (if t536 = true then ((pannierlaw05_wakes.f k).bind fun t537 => (some t537)) else (none))) else (none)) else (none)) else (none)) else (none)) else (none)))) else (none))) else (none))
def pannierlaw05_TreeArgs.f (k : Nat) (a0 : Int) (a1 : Int) : Option (Bool) := pannierlaw05_TreeArgs.l0 k a1 (Int.tmod (wrap64 (a0)) 13) (⟨#[83, 85, 77, 40]⟩ : ByteArray) (⟨#[115, 117, 109, 32, 40, 32]⟩ : ByteArray) 0
theorem zP10 {v : World} {g : Nat} {t : TypeId} {b0 b1 b2 b3 b4 b5 b6 b7 b8 b9 : Value} (h : v.heap[g]? = some (.cells #[b0, b1, b2, b3, b4, b5, b6, b7, b8, b9] t (0, 0))) {a0 a1 a2 a3 a4 a5 a6 a7 a8 a9 : Value} : ((((((((((v.setCell ⟨g, 0, none⟩ a0).setCell ⟨g, 1, none⟩ a1).setCell ⟨g, 2, none⟩ a2).setCell ⟨g, 3, none⟩ a3).setCell ⟨g, 4, none⟩ a4).setCell ⟨g, 5, none⟩ a5).setCell ⟨g, 6, none⟩ a6).setCell ⟨g, 7, none⟩ a7).setCell ⟨g, 8, none⟩ a8).setCell ⟨g, 9, none⟩ a9).heap[g]? = some (.cells #[a0, a1, a2, a3, a4, a5, a6, a7, a8, a9] t (0, 0)) := put10_blk h a0 a1 a2 a3 a4 a5 a6 a7 a8 a9
theorem qS7_1 {p q : Prop} (h0 : p) (h : p → q := by intro h_; repeat first | with_reducible exact h_ | apply zS | exact h_) : q := h h0
theorem qS7_2 {p q : Prop} (h0 : p) (h : p → q := by intro h_; repeat first | with_reducible exact h_ | apply zS | refine below_set ?_ GE519.out | exact h_) : q := h h0
theorem qS7_3 {p q : Prop} (h0 : p) (h : p → q := by intro h_; repeat first | with_reducible exact h_ | apply zS | refine below_set ?_ GE519.out | refine below_set ?_ GE534.out | exact h_) : q := h h0
set_option maxHeartbeats 8000000 in
set_option maxRecDepth 100000 in
theorem pannierlaw05_TreeArgs.calls (k : Nat) (a0 : Int) (a1 : Int) (r : Bool) (w : World) (hG : G4 w) (h : pannierlaw05_TreeArgs.f k a0 a1 = some r) :
    Calls Tryz.prog 7 #[.int .u8 a0, .int .u8 a1] w fun e w' => e = .returned (.bool r) ∧ Below w.heap.size w w' := by
  have hu31 := Tryz.underlying31
  have HB := Aside0.mk (Below.refl w.heap.size w)
  have H : (pannierlaw05_TreeArgs.l0 k a1 (Int.tmod (wrap64 (a0)) 13) (⟨#[83, 85, 77, 40]⟩ : ByteArray) (⟨#[115, 117, 109, 32, 40, 32]⟩ : ByteArray) 0) = some r := h
  clear h
  have H' := Aside0.mk H
  clear H
  go_enter Tryz.func7, Tryz.ntmps7
  go_wp2
  go_loopg [6, 7, 8] k (fun kq v6 v7 v8 w' => ∃ (x6_1 : ByteArray) (x7_1 : ByteArray) (x8_1 : Int), v6 = .string x6_1 ∧ v7 = .string x7_1 ∧ v8 = .int .i64 x8_1 ∧ Aside0 (pannierlaw05_TreeArgs.l0 kq a1 (Int.tmod (wrap64 (a0)) 13) x6_1 x7_1 x8_1 = some r) ∧ Aside0 (kq ≤ k) ∧ Aside0 (Below w.heap.size w w'))
  case atStart => exact ⟨((⟨#[83, 85, 77, 40]⟩ : ByteArray)), ((⟨#[115, 117, 109, 32, 40, 32]⟩ : ByteArray)), (0), (by first | rfl | (simp; done) | (simp [*]; done)), (by first | rfl | (simp; done) | (simp [*]; done)), (by first | rfl | (simp; done) | (simp [*]; done)), H', ⟨Nat.le_refl _⟩, ⟨by repeat first | with_reducible exact HB.out | apply zS | exact HB.out⟩⟩
  case round =>
    clear H'
    try clear p2
    obtain ⟨x6_1, x7_1, x8_1, rfl, rfl, rfl, HA, HK1, HB⟩ := hrel
    cases gk with
    | zero => exact absurd HA.out (by simp [pannierlaw05_TreeArgs.l0])
    | succ k1 =>
      have H := HA.out
      clear HA
      simp only [pannierlaw05_TreeArgs.l0] at H
      by_cases c3 : x8_1 < (Int.tmod (wrap64 (a0)) 13)
      · rw [if_pos c3] at H
        have c3b0 : decide (x8_1 < (Int.tmod (wrap64 (a0)) 13)) = true := decide_eq_true c3
        clear c3
        by_cases c4 : x8_1 > 0
        · rw [if_pos c4] at H
          have c4b0 : decide (0 < x8_1) = true := decide_eq_true c4
          clear c4
          by_cases c5 : x6_1.size + 1 ≤ 9223372036854775807
          · rw [if_pos c5] at H
            have c5b0 := eq_true c5
            have c5b1 : decide (x6_1.size + 1 ≤ 9223372036854775807) = true := decide_eq_true c5
            try have c5b2 : (9223372036854775807 < x6_1.size + 1) = False := eq_false (Nat.not_lt.2 c5)
            by_cases c6 : x7_1.size + 3 ≤ 9223372036854775807
            · rw [if_pos c6] at H
              have c6b0 := eq_true c6
              have c6b1 : decide (x7_1.size + 3 ≤ 9223372036854775807) = true := decide_eq_true c6
              try have c6b2 : (9223372036854775807 < x7_1.size + 3) = False := eq_false (Nat.not_lt.2 c6)
              obtain ⟨y499, hy499⟩ : ∃ y_ : List Int, y_ = (([(48 + ((Int.tmod (wrap64 ((wrap64 (a1)) + x8_1)) 10) % 256)) % 256] : List Int)) := ⟨_, rfl⟩
              replace H : (if (x6_1 ++ (⟨#[44]⟩ : ByteArray)).size + (strOfNums y499).size ≤ 9223372036854775807 then (if 1 + (strOfNums y499).size ≤ 9223372036854775807 then (if ((⟨#[40]⟩ : ByteArray) ++ (strOfNums y499)).size + 2 ≤ 9223372036854775807 then (if (x7_1 ++ (⟨#[32, 44, 32]⟩ : ByteArray)).size + (((⟨#[40]⟩ : ByteArray) ++ (strOfNums y499)) ++ (⟨#[32, 41]⟩ : ByteArray)).size ≤ 9223372036854775807 then (pannierlaw05_TreeArgs.l0 k1 a1 (Int.tmod (wrap64 (a0)) 13) ((x6_1 ++ (⟨#[44]⟩ : ByteArray)) ++ (strOfNums y499)) ((x7_1 ++ (⟨#[32, 44, 32]⟩ : ByteArray)) ++ (((⟨#[40]⟩ : ByteArray) ++ (strOfNums y499)) ++ (⟨#[32, 41]⟩ : ByteArray))) (wrap64 (x8_1 + 1))) else (none)) else (none)) else (none)) else (none)) = some r := by first | (rw [hy499]; with_reducible exact H) | (have H2_ := (Option.bind_some _ _).symm.trans H; rw [hy499]; with_reducible exact H2_) | (have H2_ := (Option.bind_some _ _).symm.trans H; with_reducible exact H2_) | with_reducible exact H | (rw [hy499]; exact H) | exact H
              have Ny499 := Aside0.mk hy499
              clear hy499
              by_cases c7 : (x6_1 ++ (⟨#[44]⟩ : ByteArray)).size + (strOfNums y499).size ≤ 9223372036854775807
              · rw [if_pos c7] at H
                have c7b0 := eq_true c7
                have c7b1 : decide ((x6_1 ++ (⟨#[44]⟩ : ByteArray)).size + (strOfNums y499).size ≤ 9223372036854775807) = true := decide_eq_true c7
                try have c7b2 : (9223372036854775807 < (x6_1 ++ (⟨#[44]⟩ : ByteArray)).size + (strOfNums y499).size) = False := eq_false (Nat.not_lt.2 c7)
                try have c7x9 : (9223372036854775807 < x6_1.size + 1 + (strOfNums y499).size) = False := by have z_ := c7b2; simp only [ByteArray.size_append] at z_; exact z_
                by_cases c8 : 1 + (strOfNums y499).size ≤ 9223372036854775807
                · rw [if_pos c8] at H
                  have c8b0 := eq_true c8
                  have c8b1 : decide (1 + (strOfNums y499).size ≤ 9223372036854775807) = true := decide_eq_true c8
                  try have c8b2 : (9223372036854775807 < 1 + (strOfNums y499).size) = False := eq_false (Nat.not_lt.2 c8)
                  by_cases c9 : ((⟨#[40]⟩ : ByteArray) ++ (strOfNums y499)).size + 2 ≤ 9223372036854775807
                  · rw [if_pos c9] at H
                    have c9b0 := eq_true c9
                    have c9b1 : decide (((⟨#[40]⟩ : ByteArray) ++ (strOfNums y499)).size + 2 ≤ 9223372036854775807) = true := decide_eq_true c9
                    try have c9b2 : (9223372036854775807 < ((⟨#[40]⟩ : ByteArray) ++ (strOfNums y499)).size + 2) = False := eq_false (Nat.not_lt.2 c9)
                    try have c9x9 : (9223372036854775807 < 1 + (strOfNums y499).size + 2) = False := by have z_ := c9b2; simp only [ByteArray.size_append] at z_; exact z_
                    by_cases c10 : (x7_1 ++ (⟨#[32, 44, 32]⟩ : ByteArray)).size + (((⟨#[40]⟩ : ByteArray) ++ (strOfNums y499)) ++ (⟨#[32, 41]⟩ : ByteArray)).size ≤ 9223372036854775807
                    · rw [if_pos c10] at H
                      have c10b0 := eq_true c10
                      have c10b1 : decide ((x7_1 ++ (⟨#[32, 44, 32]⟩ : ByteArray)).size + (((⟨#[40]⟩ : ByteArray) ++ (strOfNums y499)) ++ (⟨#[32, 41]⟩ : ByteArray)).size ≤ 9223372036854775807) = true := decide_eq_true c10
                      try have c10b2 : (9223372036854775807 < (x7_1 ++ (⟨#[32, 44, 32]⟩ : ByteArray)).size + (((⟨#[40]⟩ : ByteArray) ++ (strOfNums y499)) ++ (⟨#[32, 41]⟩ : ByteArray)).size) = False := eq_false (Nat.not_lt.2 c10)
                      try have c10x9 : (9223372036854775807 < x7_1.size + 3 + (1 + (strOfNums y499).size + 2)) = False := by have z_ := c10b2; simp only [ByteArray.size_append] at z_; exact z_
                      have H' := Aside0.mk H
                      clear H
                      go_wp2_with (first | ((with_reducible refine gate_dst (N := 37) rfl ?_); (try (refine gate_guard (by rfl) ?_; dsimp only)); refine Kd.R_lit (Kd.int .u8) _ 5 ?hg (N := 37) ?hd (xs := ([(48 + ((Int.tmod (wrap64 ((wrap64 (a1)) + x8_1)) 10) % 256)) % 256] : List Int)) (inner := [.int .u8 ((48 + ((Int.tmod (wrap64 ((wrap64 (a1)) + x8_1)) 10) % 256)) % 256)]) (ok := fun _ => True) (okp := fun _ => True) ?hr ?hp (fun _ hk => hk) trivial (Below.refl _ _) (Nat.le_refl _) (by simp) ?_; (case hd => rfl); (case hg => rfl); (case hr => first | (go_simp; done) | (go_simp; rfl)); (case hp => exact (Reps.one (show Kd.M (Kd.int .u8) _ _ _ ((48 + ((Int.tmod (wrap64 ((wrap64 (a1)) + x8_1)) 10) % 256)) % 256) [.int .u8 ((48 + ((Int.tmod (wrap64 ((wrap64 (a1)) + x8_1)) 10) % 256)) % 256)] from rfl) (Reps.none _ _))); intro v500 w11 ho12 hb hg_ hnew_; clear hg_ hnew_; (first | rw [← Ny499.out] at ho12 | (simp only [Int.reduceToNat] at ho12; rw [← Ny499.out] at ho12)); have n0_ := Aside0.mk (Kd.R_lower ho12 (below_size (qS7_1 HB.out))); have n1_ := Aside0.mk (below_step (qS7_1 HB.out) hb); clear HB; have HO501 := n0_; have HB := n1_; clear n0_ n1_; clear hb ho12; have hcv13 := own_string (P := Tryz.prog) Tryz.underlying44 Tryz.underlying5 Tryz.underlying9 (Kd.own_of_R HO501.out)))
                      go_roundg k1
                      case measure => have := HK1.out; omega
                      case rel => exact ⟨((x6_1 ++ (⟨#[44]⟩ : ByteArray)) ++ (strOfNums y499)), ((x7_1 ++ (⟨#[32, 44, 32]⟩ : ByteArray)) ++ (((⟨#[40]⟩ : ByteArray) ++ (strOfNums y499)) ++ (⟨#[32, 41]⟩ : ByteArray))), (wrap64 (x8_1 + 1)), (by first | rfl | (simp; done) | (simp [*]; done)), (by first | rfl | (simp; done) | (simp [*]; done)), (by first | rfl | (simp; done) | (simp [*]; done)), H', ⟨by have := HK1.out; omega⟩, ⟨by repeat first | with_reducible exact HB.out | apply zS | exact HB.out⟩⟩
                    · rw [if_neg c10] at H
                      exact absurd H (by simp)
                  · rw [if_neg c9] at H
                    exact absurd H (by simp)
                · rw [if_neg c8] at H
                  exact absurd H (by simp)
              · rw [if_neg c7] at H
                exact absurd H (by simp)
            · rw [if_neg c6] at H
              exact absurd H (by simp)
          · rw [if_neg c5] at H
            exact absurd H (by simp)
        · rw [if_neg c4] at H
          have c4b0 : decide (0 < x8_1) = false := decide_eq_false c4
          clear c4
          obtain ⟨y502, hy502⟩ : ∃ y_ : List Int, y_ = (([(48 + ((Int.tmod (wrap64 ((wrap64 (a1)) + x8_1)) 10) % 256)) % 256] : List Int)) := ⟨_, rfl⟩
          replace H : (if x6_1.size + (strOfNums y502).size ≤ 9223372036854775807 then (if 1 + (strOfNums y502).size ≤ 9223372036854775807 then (if ((⟨#[40]⟩ : ByteArray) ++ (strOfNums y502)).size + 2 ≤ 9223372036854775807 then (if x7_1.size + (((⟨#[40]⟩ : ByteArray) ++ (strOfNums y502)) ++ (⟨#[32, 41]⟩ : ByteArray)).size ≤ 9223372036854775807 then (pannierlaw05_TreeArgs.l0 k1 a1 (Int.tmod (wrap64 (a0)) 13) (x6_1 ++ (strOfNums y502)) (x7_1 ++ (((⟨#[40]⟩ : ByteArray) ++ (strOfNums y502)) ++ (⟨#[32, 41]⟩ : ByteArray))) (wrap64 (x8_1 + 1))) else (none)) else (none)) else (none)) else (none)) = some r := by first | (rw [hy502]; with_reducible exact H) | (have H2_ := (Option.bind_some _ _).symm.trans H; rw [hy502]; with_reducible exact H2_) | (have H2_ := (Option.bind_some _ _).symm.trans H; with_reducible exact H2_) | with_reducible exact H | (rw [hy502]; exact H) | exact H
          have Ny502 := Aside0.mk hy502
          clear hy502
          by_cases c14 : x6_1.size + (strOfNums y502).size ≤ 9223372036854775807
          · rw [if_pos c14] at H
            have c14b0 := eq_true c14
            have c14b1 : decide (x6_1.size + (strOfNums y502).size ≤ 9223372036854775807) = true := decide_eq_true c14
            try have c14b2 : (9223372036854775807 < x6_1.size + (strOfNums y502).size) = False := eq_false (Nat.not_lt.2 c14)
            by_cases c15 : 1 + (strOfNums y502).size ≤ 9223372036854775807
            · rw [if_pos c15] at H
              have c15b0 := eq_true c15
              have c15b1 : decide (1 + (strOfNums y502).size ≤ 9223372036854775807) = true := decide_eq_true c15
              try have c15b2 : (9223372036854775807 < 1 + (strOfNums y502).size) = False := eq_false (Nat.not_lt.2 c15)
              by_cases c16 : ((⟨#[40]⟩ : ByteArray) ++ (strOfNums y502)).size + 2 ≤ 9223372036854775807
              · rw [if_pos c16] at H
                have c16b0 := eq_true c16
                have c16b1 : decide (((⟨#[40]⟩ : ByteArray) ++ (strOfNums y502)).size + 2 ≤ 9223372036854775807) = true := decide_eq_true c16
                try have c16b2 : (9223372036854775807 < ((⟨#[40]⟩ : ByteArray) ++ (strOfNums y502)).size + 2) = False := eq_false (Nat.not_lt.2 c16)
                try have c16x9 : (9223372036854775807 < 1 + (strOfNums y502).size + 2) = False := by have z_ := c16b2; simp only [ByteArray.size_append] at z_; exact z_
                by_cases c17 : x7_1.size + (((⟨#[40]⟩ : ByteArray) ++ (strOfNums y502)) ++ (⟨#[32, 41]⟩ : ByteArray)).size ≤ 9223372036854775807
                · rw [if_pos c17] at H
                  have c17b0 := eq_true c17
                  have c17b1 : decide (x7_1.size + (((⟨#[40]⟩ : ByteArray) ++ (strOfNums y502)) ++ (⟨#[32, 41]⟩ : ByteArray)).size ≤ 9223372036854775807) = true := decide_eq_true c17
                  try have c17b2 : (9223372036854775807 < x7_1.size + (((⟨#[40]⟩ : ByteArray) ++ (strOfNums y502)) ++ (⟨#[32, 41]⟩ : ByteArray)).size) = False := eq_false (Nat.not_lt.2 c17)
                  try have c17x9 : (9223372036854775807 < x7_1.size + (1 + (strOfNums y502).size + 2)) = False := by have z_ := c17b2; simp only [ByteArray.size_append] at z_; exact z_
                  have H' := Aside0.mk H
                  clear H
                  go_wp2_with (first | ((with_reducible refine gate_dst (N := 37) rfl ?_); (try (refine gate_guard (by rfl) ?_; dsimp only)); refine Kd.R_lit (Kd.int .u8) _ 5 ?hg (N := 37) ?hd (xs := ([(48 + ((Int.tmod (wrap64 ((wrap64 (a1)) + x8_1)) 10) % 256)) % 256] : List Int)) (inner := [.int .u8 ((48 + ((Int.tmod (wrap64 ((wrap64 (a1)) + x8_1)) 10) % 256)) % 256)]) (ok := fun _ => True) (okp := fun _ => True) ?hr ?hp (fun _ hk => hk) trivial (Below.refl _ _) (Nat.le_refl _) (by simp) ?_; (case hd => rfl); (case hg => rfl); (case hr => first | (go_simp; done) | (go_simp; rfl)); (case hp => exact (Reps.one (show Kd.M (Kd.int .u8) _ _ _ ((48 + ((Int.tmod (wrap64 ((wrap64 (a1)) + x8_1)) 10) % 256)) % 256) [.int .u8 ((48 + ((Int.tmod (wrap64 ((wrap64 (a1)) + x8_1)) 10) % 256)) % 256)] from rfl) (Reps.none _ _))); intro v503 w18 ho19 hb hg_ hnew_; clear hg_ hnew_; (first | rw [← Ny502.out] at ho19 | (simp only [Int.reduceToNat] at ho19; rw [← Ny502.out] at ho19)); have n0_ := Aside0.mk (Kd.R_lower ho19 (below_size (qS7_1 HB.out))); have n1_ := Aside0.mk (below_step (qS7_1 HB.out) hb); clear HB; have HO504 := n0_; have HB := n1_; clear n0_ n1_; clear hb ho19; have hcv20 := own_string (P := Tryz.prog) Tryz.underlying44 Tryz.underlying5 Tryz.underlying9 (Kd.own_of_R HO504.out)))
                  go_roundg k1
                  case measure => have := HK1.out; omega
                  case rel => exact ⟨(x6_1 ++ (strOfNums y502)), (x7_1 ++ (((⟨#[40]⟩ : ByteArray) ++ (strOfNums y502)) ++ (⟨#[32, 41]⟩ : ByteArray))), (wrap64 (x8_1 + 1)), (by first | rfl | (simp; done) | (simp [*]; done)), (by first | rfl | (simp; done) | (simp [*]; done)), (by first | rfl | (simp; done) | (simp [*]; done)), H', ⟨by have := HK1.out; omega⟩, ⟨by repeat first | with_reducible exact HB.out | apply zS | exact HB.out⟩⟩
                · rw [if_neg c17] at H
                  exact absurd H (by simp)
              · rw [if_neg c16] at H
                exact absurd H (by simp)
            · rw [if_neg c15] at H
              exact absurd H (by simp)
          · rw [if_neg c14] at H
            exact absurd H (by simp)
      · rw [if_neg c3] at H
        have c3b0 : decide (x8_1 < (Int.tmod (wrap64 (a0)) 13)) = false := decide_eq_false c3
        clear c3
        by_cases c21 : x6_1.size + 1 ≤ 9223372036854775807
        · rw [if_pos c21] at H
          have c21b0 := eq_true c21
          have c21b1 : decide (x6_1.size + 1 ≤ 9223372036854775807) = true := decide_eq_true c21
          try have c21b2 : (9223372036854775807 < x6_1.size + 1) = False := eq_false (Nat.not_lt.2 c21)
          replace H := Option.bind_eq_some_iff.mp H
          obtain ⟨⟨t505, t506, t507, t508, t509, t510, t511, t512, t513, t514, t517, t518⟩, A220, H⟩ := H
          replace H : (if x7_1.size + 1 ≤ 9223372036854775807 then ((tree_Parse.f k1 (x7_1 ++ (⟨#[41]⟩ : ByteArray))).bind fun bt520 => (if (Int.tmod (wrap64 (a0)) 13) > 10 then (if t518 = 13 then (if bt520.2.2.2.2.2.2.2.2.2.2.2 = 13 then ((pannierlaw05_wakes.f k1).bind fun t535 => (some t535)) else (none)) else (none)) else (if t518 = 0 then (if bt520.2.2.2.2.2.2.2.2.2.2.2 = 0 then (if t505 = 6 then (if (t514.length : Int) = (Int.tmod (wrap64 (a0)) 13) then (if t513.toList = ([83, 85, 77] : List UInt8) then ((tree_Same.f k1 t505 t506 t507 t508 t509 t510 t511 t512 t513 t514 bt520.1 bt520.2.1 bt520.2.2.1 bt520.2.2.2.1 bt520.2.2.2.2.1 bt520.2.2.2.2.2.1 bt520.2.2.2.2.2.2.1 bt520.2.2.2.2.2.2.2.1 bt520.2.2.2.2.2.2.2.2.1 bt520.2.2.2.2.2.2.2.2.2.1).bind fun t536 => (if t536 = true then ((pannierlaw05_wakes.f k1).bind fun t537 => (some t537)) else (none))) else (none)) else (none)) else (none)) else (none)) else (none)))) else (none)) = some r := H
          have A22 := Aside0.mk A220
          clear A220
          by_cases c23 : x7_1.size + 1 ≤ 9223372036854775807
          · rw [if_pos c23] at H
            have c23b0 := eq_true c23
            have c23b1 : decide (x7_1.size + 1 ≤ 9223372036854775807) = true := decide_eq_true c23
            try have c23b2 : (9223372036854775807 < x7_1.size + 1) = False := eq_false (Nat.not_lt.2 c23)
            replace H := Option.bind_eq_some_iff.mp H
            obtain ⟨⟨t520, t521, t522, t523, t524, t525, t526, t527, t528, t529, t532, t533⟩, A240, H⟩ := H
            replace H : (if (Int.tmod (wrap64 (a0)) 13) > 10 then (if t518 = 13 then (if t533 = 13 then ((pannierlaw05_wakes.f k1).bind fun t535 => (some t535)) else (none)) else (none)) else (if t518 = 0 then (if t533 = 0 then (if t505 = 6 then (if (t514.length : Int) = (Int.tmod (wrap64 (a0)) 13) then (if t513.toList = ([83, 85, 77] : List UInt8) then ((tree_Same.f k1 t505 t506 t507 t508 t509 t510 t511 t512 t513 t514 t520 t521 t522 t523 t524 t525 t526 t527 t528 t529).bind fun t536 => (if t536 = true then ((pannierlaw05_wakes.f k1).bind fun t537 => (some t537)) else (none))) else (none)) else (none)) else (none)) else (none)) else (none))) = some r := H
            have A24 := Aside0.mk A240
            clear A240
            by_cases c25 : (Int.tmod (wrap64 (a0)) 13) > 10
            · rw [if_pos c25] at H
              have c25b0 : decide (10 < (Int.tmod (wrap64 (a0)) 13)) = true := decide_eq_true c25
              clear c25
              by_cases c26 : t518 = 13
              · rw [if_pos c26] at H
                have c26b0 : (t518 == 13) = true := beq_iff_eq.mpr c26
                have c26b1 : (t518 != 13) = false := bne_eq_false_iff_eq.mpr c26
                clear c26
                by_cases c27 : t533 = 13
                · rw [if_pos c27] at H
                  have c27b0 : (t533 == 13) = true := beq_iff_eq.mpr c27
                  have c27b1 : (t533 != 13) = false := bne_eq_false_iff_eq.mpr c27
                  clear c27
                  replace H := Option.bind_eq_some_iff.mp H
                  obtain ⟨t535, A280, H⟩ := H
                  replace H : (some t535) = some r := H
                  have A28 := Aside0.mk A280
                  clear A280
                  obtain rfl := Option.some.inj H
                  go_wp2_with (first | ((with_reducible refine gate_callee (f := 14) rfl ?_); refine goesL_ (some 50) rfl rfl Tryz.func14 (by kernel_rfl) rfl #[.string (x6_1 ++ (⟨#[41]⟩ : ByteArray))] rfl (by (try simp only [List.map_toArray, List.map_cons, List.map_nil]); first | done | rfl | (simp only [List.length_drop, List.length_take]; rfl)) ?_; (with_reducible refine (tree_Parse.calls k1 (x6_1 ++ (⟨#[41]⟩ : ByteArray)) t505 t506 t507 t508 t509 t510 t511 t512 t513 t514 t517 t518 _ ?side1 A22.out).mono ?_); (case side1 => exact gl_4_4 (qS7_1 HB.out) hG); rintro e w29 ⟨v515, rfl, ho0, hb⟩; refine ⟨_, rfl, ?_⟩; have n0_ := Aside0.mk (Kd.V_lower (Kd.V_mono (ok' := fun k_ => True) ho0 (fun k_ hk_ => trivial)) (below_size (qS7_1 HB.out))); have n1_ := Aside0.mk (below_step (qS7_1 HB.out) hb); clear HB; have HO516 := n0_; have HB := n1_; clear n0_ n1_; (try clear hb); (try clear hb2); (try clear hk); (try clear hi); (try clear ho0)) | ((with_reducible refine gate_dst (N := 10) rfl ?_); (try (refine gate_guard (by rfl) ?_; dsimp only)); refine box_event ?hg (N := 10) ?hd (cs := #[.int .i64 0, .int .i64 0, .int .i64 0, .string (⟨#[]⟩ : ByteArray), .int .i64 0, .int .i64 0, .int .i64 0, .int .i64 0, .string (⟨#[]⟩ : ByteArray), .slice none 0 0]) (t := 31) ?hr ?_; (case hd => rfl); (case hg => rfl); (case hr => first | (go_simp; done) | (go_simp; rfl)); intro gb519 hg w30 hbox hb; have n0_ := Aside0.mk (Kd.V_below (Kd.V_elderB (by (with_reducible repeat (first | apply Kd.V_alloc | apply Kd.V_drewN | apply Kd.V_drew)); exact HO516.out) gb519 (Nat.le_of_eq hg.symm)) hb); have n1_ := Aside0.mk (below_step (qS7_1 HB.out) hb); have n2_ := Aside0.mk (hbox); have n3_ := Aside0.mk ((by rw [hg]; exact (below_size (qS7_1 HB.out)) : w.heap.size ≤ gb519)); have n4_ := n3_; clear HO516; clear HB; have HO516 := n0_; have HB := n1_; have BK519 := n2_; have GW519 := n3_; have GE519 := n4_; clear n0_ n1_ n2_ n3_ n4_; clear hb hbox hg; obtain ⟨hcz31_0, hcz31_1, hcz31_2, hcz31_3, hcz31_4, hcz31_5, hcz31_6, hcz31_7, hcz31_8, hcz31_9, hfz31_0, hfz31_1, hfz31_2, hfz31_3, hfz31_4, hfz31_5, hfz31_6, hfz31_7, hfz31_8, hfz31_9⟩ := zC10 BK519.out; obtain ⟨Ao32, co32, eo32⟩ := Kd.V_slice HO516.out; subst eo32) | ((with_reducible refine gate_callee (f := 14) rfl ?_); refine goesL_ (some 57) rfl rfl Tryz.func14 (by kernel_rfl) rfl #[.string (x7_1 ++ (⟨#[41]⟩ : ByteArray))] rfl (by (try simp only [List.map_toArray, List.map_cons, List.map_nil]); first | done | rfl | (simp only [List.length_drop, List.length_take]; rfl)) ?_; (with_reducible refine (tree_Parse.calls k1 (x7_1 ++ (⟨#[41]⟩ : ByteArray)) t520 t521 t522 t523 t524 t525 t526 t527 t528 t529 t532 t533 _ ?side1 A24.out).mono ?_); (case side1 => exact gl_4_4 (qS7_2 HB.out) hG); rintro e w33 ⟨v530, rfl, ho0, hb⟩; refine ⟨_, rfl, ?_⟩; have n0_ := Aside0.mk (Kd.V_below (by (with_reducible repeat (first | apply Kd.V_alloc | apply Kd.V_drewN | apply Kd.V_drew)); exact (Kd.V_mono (Kd.V_far (p := ⟨gb519, 9, none⟩) (Kd.V_far (p := ⟨gb519, 8, none⟩) (Kd.V_far (p := ⟨gb519, 7, none⟩) (Kd.V_far (p := ⟨gb519, 6, none⟩) (Kd.V_far (p := ⟨gb519, 5, none⟩) (Kd.V_far (p := ⟨gb519, 4, none⟩) (Kd.V_far (p := ⟨gb519, 3, none⟩) (Kd.V_far (p := ⟨gb519, 2, none⟩) (Kd.V_far (p := ⟨gb519, 1, none⟩) (Kd.V_far (p := ⟨gb519, 0, none⟩) (Kd.V_mono HO516.out (fun k_ hk => (⟨hk, hk.2⟩ : _ ∧ k_ ≠ gb519))) (fun _ hk => hk.2) (.int .i64 t505)) (fun _ hk => hk.2) (.int .i64 t506)) (fun _ hk => hk.2) (.int .i64 t507)) (fun _ hk => hk.2) (.string t508)) (fun _ hk => hk.2) (.int .i64 t509)) (fun _ hk => hk.2) (.int .i64 t510)) (fun _ hk => hk.2) (.int .i64 t511)) (fun _ hk => hk.2) (.int .i64 t512)) (fun _ hk => hk.2) (.string t513)) (fun _ hk => hk.2) (.slice Ao32 t514.length co32)) (fun _ h_ => h_.1))) hb); have n1_ := Aside0.mk (Kd.V_lower (Kd.V_mono (ok' := fun k_ => k_ ≠ gb519) ho0 (fun k_ hk_ => (Kd.freshB (g := gb519) (o := .cells #[.int .i64 t505, .int .i64 t506, .int .i64 t507, .string t508, .int .i64 t509, .int .i64 t510, .int .i64 t511, .int .i64 t512, .string t513, .slice Ao32 t514.length co32] 31 (0, 0)) (by exact zB (zP10 (zB BK519.out))) k_ hk_))) (below_size (qS7_2 HB.out))); have n2_ := Aside0.mk (blk_below (g := gb519) (o := .cells #[.int .i64 t505, .int .i64 t506, .int .i64 t507, .string t508, .int .i64 t509, .int .i64 t510, .int .i64 t511, .int .i64 t512, .string t513, .slice Ao32 t514.length co32] 31 (0, 0)) (by exact zB (zP10 (zB BK519.out))) hb); have n3_ := Aside0.mk (below_step (qS7_2 HB.out) hb); clear HO516; clear BK519; clear HB; have HO516 := n0_; have HO531 := n1_; have BK519 := n2_; have HB := n3_; clear n0_ n1_ n2_ n3_; (try clear hb); (try clear hb2); (try clear hk); (try clear hi); (try clear ho0)) | ((with_reducible refine gate_dst (N := 13) rfl ?_); (try (refine gate_guard (by rfl) ?_; dsimp only)); refine box_event ?hg (N := 13) ?hd (cs := #[.int .i64 0, .int .i64 0, .int .i64 0, .string (⟨#[]⟩ : ByteArray), .int .i64 0, .int .i64 0, .int .i64 0, .int .i64 0, .string (⟨#[]⟩ : ByteArray), .slice none 0 0]) (t := 31) ?hr ?_; (case hd => rfl); (case hg => rfl); (case hr => first | (go_simp; done) | (go_simp; rfl)); intro gb534 hg w34 hbox hb; have n0_ := Aside0.mk (Kd.V_below (Kd.V_elderB (by (with_reducible repeat (first | apply Kd.V_alloc | apply Kd.V_drewN | apply Kd.V_drew)); exact HO516.out) gb534 (Nat.le_of_eq hg.symm)) hb); have n1_ := Aside0.mk (Kd.V_below (Kd.V_elderB (by (with_reducible repeat (first | apply Kd.V_alloc | apply Kd.V_drewN | apply Kd.V_drew)); exact HO531.out) gb534 (Nat.le_of_eq hg.symm)) hb); have n2_ := Aside0.mk (blk_below (g := gb519) (o := .cells #[.int .i64 t505, .int .i64 t506, .int .i64 t507, .string t508, .int .i64 t509, .int .i64 t510, .int .i64 t511, .int .i64 t512, .string t513, .slice Ao32 t514.length co32] 31 (0, 0)) (zB BK519.out) hb); have n3_ := Aside0.mk (below_step (qS7_2 HB.out) hb); have n4_ := Aside0.mk (hbox); have n5_ := Aside0.mk ((by rw [hg]; exact (below_size (qS7_2 HB.out)) : w.heap.size ≤ gb534)); have n6_ := n5_; have n7_ := Aside0.mk ((by rw [hg]; exact Nat.ne_of_lt (blk_lt (g := gb519) (o := .cells #[.int .i64 t505, .int .i64 t506, .int .i64 t507, .string t508, .int .i64 t509, .int .i64 t510, .int .i64 t511, .int .i64 t512, .string t513, .slice Ao32 t514.length co32] 31 (0, 0)) (zB BK519.out)) : gb519 ≠ gb534)); have n8_ := Aside0.mk ((by rw [hg]; exact Nat.ne_of_gt (blk_lt (g := gb519) (o := .cells #[.int .i64 t505, .int .i64 t506, .int .i64 t507, .string t508, .int .i64 t509, .int .i64 t510, .int .i64 t511, .int .i64 t512, .string t513, .slice Ao32 t514.length co32] 31 (0, 0)) (zB BK519.out)) : gb534 ≠ gb519)); clear HO516; clear HO531; clear BK519; clear HB; have HO516 := n0_; have HO531 := n1_; have BK519 := n2_; have HB := n3_; have BK534 := n4_; have GW534 := n5_; have GE534 := n6_; have NB519_534 := n7_; have NB534_519 := n8_; clear n0_ n1_ n2_ n3_ n4_ n5_ n6_ n7_ n8_; clear hb hbox hg; have hnb35 := NB534_519.out; have hnc35 := NB519_534.out; obtain ⟨hcz36_0, hcz36_1, hcz36_2, hcz36_3, hcz36_4, hcz36_5, hcz36_6, hcz36_7, hcz36_8, hcz36_9, hfz36_0, hfz36_1, hfz36_2, hfz36_3, hfz36_4, hfz36_5, hfz36_6, hfz36_7, hfz36_8, hfz36_9⟩ := zC10 BK534.out; obtain ⟨Ao37, co37, eo37⟩ := Kd.V_slice HO531.out; subst eo37) | (go_at_call 13; (with_reducible refine (pannierlaw05_wakes.calls k1  t535 _ ?side1 A28.out).mono ?_); (case side1 => exact gl_4_4 (qS7_3 HB.out) hG); rintro e w38 ⟨rfl, hb⟩; have n0_ := Aside0.mk (Kd.V_below (by (with_reducible repeat (first | apply Kd.V_alloc | apply Kd.V_drewN | apply Kd.V_drew)); exact (Kd.V_mono (Kd.V_far (p := ⟨gb534, 9, none⟩) (Kd.V_far (p := ⟨gb534, 8, none⟩) (Kd.V_far (p := ⟨gb534, 7, none⟩) (Kd.V_far (p := ⟨gb534, 6, none⟩) (Kd.V_far (p := ⟨gb534, 5, none⟩) (Kd.V_far (p := ⟨gb534, 4, none⟩) (Kd.V_far (p := ⟨gb534, 3, none⟩) (Kd.V_far (p := ⟨gb534, 2, none⟩) (Kd.V_far (p := ⟨gb534, 1, none⟩) (Kd.V_far (p := ⟨gb534, 0, none⟩) (Kd.V_mono HO516.out (fun k_ hk => (⟨hk, hk.2⟩ : _ ∧ k_ ≠ gb534))) (fun _ hk => hk.2) (.int .i64 t520)) (fun _ hk => hk.2) (.int .i64 t521)) (fun _ hk => hk.2) (.int .i64 t522)) (fun _ hk => hk.2) (.string t523)) (fun _ hk => hk.2) (.int .i64 t524)) (fun _ hk => hk.2) (.int .i64 t525)) (fun _ hk => hk.2) (.int .i64 t526)) (fun _ hk => hk.2) (.int .i64 t527)) (fun _ hk => hk.2) (.string t528)) (fun _ hk => hk.2) (.slice Ao37 t529.length co37)) (fun _ h_ => h_.1))) hb); have n1_ := Aside0.mk (Kd.V_below (by (with_reducible repeat (first | apply Kd.V_alloc | apply Kd.V_drewN | apply Kd.V_drew)); exact (Kd.V_mono (Kd.V_far (p := ⟨gb534, 9, none⟩) (Kd.V_far (p := ⟨gb534, 8, none⟩) (Kd.V_far (p := ⟨gb534, 7, none⟩) (Kd.V_far (p := ⟨gb534, 6, none⟩) (Kd.V_far (p := ⟨gb534, 5, none⟩) (Kd.V_far (p := ⟨gb534, 4, none⟩) (Kd.V_far (p := ⟨gb534, 3, none⟩) (Kd.V_far (p := ⟨gb534, 2, none⟩) (Kd.V_far (p := ⟨gb534, 1, none⟩) (Kd.V_far (p := ⟨gb534, 0, none⟩) (Kd.V_mono HO531.out (fun k_ hk => (⟨hk, hk.2⟩ : _ ∧ k_ ≠ gb534))) (fun _ hk => hk.2) (.int .i64 t520)) (fun _ hk => hk.2) (.int .i64 t521)) (fun _ hk => hk.2) (.int .i64 t522)) (fun _ hk => hk.2) (.string t523)) (fun _ hk => hk.2) (.int .i64 t524)) (fun _ hk => hk.2) (.int .i64 t525)) (fun _ hk => hk.2) (.int .i64 t526)) (fun _ hk => hk.2) (.int .i64 t527)) (fun _ hk => hk.2) (.string t528)) (fun _ hk => hk.2) (.slice Ao37 t529.length co37)) (fun _ h_ => h_.1))) hb); have n2_ := Aside0.mk (blk_below (g := gb519) (o := .cells #[.int .i64 t505, .int .i64 t506, .int .i64 t507, .string t508, .int .i64 t509, .int .i64 t510, .int .i64 t511, .int .i64 t512, .string t513, .slice Ao32 t514.length co32] 31 (0, 0)) (by refine zB (blk_far ?_ NB519_534.out _); refine zB ?_; refine blk_far ?_ NB519_534.out _; refine zB (blk_far ?_ NB519_534.out _); refine zB ?_; refine blk_far ?_ NB519_534.out _; refine zB (blk_far ?_ NB519_534.out _); refine zB ?_; refine blk_far ?_ NB519_534.out _; refine zB (blk_far ?_ NB519_534.out _); refine zB ?_; refine blk_far ?_ NB519_534.out _; refine zB (blk_far ?_ NB519_534.out _); refine zB (blk_far ?_ NB519_534.out _); refine zB ?_; exact BK519.out) hb); have n3_ := Aside0.mk (blk_below (g := gb534) (o := .cells #[.int .i64 t520, .int .i64 t521, .int .i64 t522, .string t523, .int .i64 t524, .int .i64 t525, .int .i64 t526, .int .i64 t527, .string t528, .slice Ao37 t529.length co37] 31 (0, 0)) (by exact zB (zP10 (zB BK534.out))) hb); have n4_ := Aside0.mk (below_step (qS7_3 HB.out) hb); clear HO516; clear HO531; clear BK519; clear BK534; clear HB; have HO516 := n0_; have HO531 := n1_; have BK519 := n2_; have BK534 := n3_; have HB := n4_; clear n0_ n1_ n2_ n3_ n4_; (try clear hb); (try clear hb2); (try clear hk); (try clear hi)))
                  go_ret
                  exact ⟨by first | rfl | (simp [errW_none, errW_some] <;> rfl) | (simp [*, errW_none, errW_some] <;> rfl), by repeat first | with_reducible exact HB.out | apply zS | refine below_set ?_ GE519.out | refine below_set ?_ GE534.out | exact HB.out⟩
                · rw [if_neg c27] at H
                  exact absurd H (by simp)
              · rw [if_neg c26] at H
                exact absurd H (by simp)
            · rw [if_neg c25] at H
              have c25b0 : decide (10 < (Int.tmod (wrap64 (a0)) 13)) = false := decide_eq_false c25
              clear c25
              by_cases c39 : t518 = 0
              · rw [if_pos c39] at H
                have c39b0 : (t518 == 0) = true := beq_iff_eq.mpr c39
                have c39b1 : (t518 != 0) = false := bne_eq_false_iff_eq.mpr c39
                clear c39
                by_cases c40 : t533 = 0
                · rw [if_pos c40] at H
                  have c40b0 : (t533 == 0) = true := beq_iff_eq.mpr c40
                  have c40b1 : (t533 != 0) = false := bne_eq_false_iff_eq.mpr c40
                  clear c40
                  by_cases c41 : t505 = 6
                  · rw [if_pos c41] at H
                    have c41b0 : (t505 == 6) = true := beq_iff_eq.mpr c41
                    have c41b1 : (t505 != 6) = false := bne_eq_false_iff_eq.mpr c41
                    clear c41
                    by_cases c42 : (t514.length : Int) = (Int.tmod (wrap64 (a0)) 13)
                    · rw [if_pos c42] at H
                      have c42b0 : ((t514.length : Int) == (Int.tmod (wrap64 (a0)) 13)) = true := beq_iff_eq.mpr c42
                      have c42b1 : ((t514.length : Int) != (Int.tmod (wrap64 (a0)) 13)) = false := bne_eq_false_iff_eq.mpr c42
                      clear c42
                      by_cases c43 : t513.toList = ([83, 85, 77] : List UInt8)
                      · rw [if_pos c43] at H
                        have c43b0 : (t513.toList == ([83, 85, 77] : List UInt8)) = true := beq_iff_eq.mpr c43
                        have c43b1 : (t513.toList != ([83, 85, 77] : List UInt8)) = false := bne_eq_false_iff_eq.mpr c43
                        clear c43
                        replace H := Option.bind_eq_some_iff.mp H
                        obtain ⟨t536, A440, H⟩ := H
                        replace H : (if t536 = true then ((pannierlaw05_wakes.f k1).bind fun t537 => (some t537)) else (none)) = some r := H
                        have A44 := Aside0.mk A440
                        clear A440
                        by_cases c45 : t536 = true
                        · subst c45
                          have H1 : ((pannierlaw05_wakes.f k1).bind fun t537 => (some t537)) = some r := by rw [if_pos rfl] at H; exact H
                          clear H
                          have H := H1
                          clear H1
                          replace H := Option.bind_eq_some_iff.mp H
                          obtain ⟨t537, A460, H⟩ := H
                          replace H : (some t537) = some r := H
                          have A46 := Aside0.mk A460
                          clear A460
                          obtain rfl := Option.some.inj H
                          go_wp2_with (first | ((with_reducible refine gate_callee (f := 14) rfl ?_); refine goesL_ (some 50) rfl rfl Tryz.func14 (by kernel_rfl) rfl #[.string (x6_1 ++ (⟨#[41]⟩ : ByteArray))] rfl (by (try simp only [List.map_toArray, List.map_cons, List.map_nil]); first | done | rfl | (simp only [List.length_drop, List.length_take]; rfl)) ?_; (with_reducible refine (tree_Parse.calls k1 (x6_1 ++ (⟨#[41]⟩ : ByteArray)) t505 t506 t507 t508 t509 t510 t511 t512 t513 t514 t517 t518 _ ?side1 A22.out).mono ?_); (case side1 => exact gl_4_4 (qS7_1 HB.out) hG); rintro e w47 ⟨v515, rfl, ho0, hb⟩; refine ⟨_, rfl, ?_⟩; have n0_ := Aside0.mk (Kd.V_lower (Kd.V_mono (ok' := fun k_ => True) ho0 (fun k_ hk_ => trivial)) (below_size (qS7_1 HB.out))); have n1_ := Aside0.mk (below_step (qS7_1 HB.out) hb); clear HB; have HO516 := n0_; have HB := n1_; clear n0_ n1_; (try clear hb); (try clear hb2); (try clear hk); (try clear hi); (try clear ho0)) | ((with_reducible refine gate_dst (N := 10) rfl ?_); (try (refine gate_guard (by rfl) ?_; dsimp only)); refine box_event ?hg (N := 10) ?hd (cs := #[.int .i64 0, .int .i64 0, .int .i64 0, .string (⟨#[]⟩ : ByteArray), .int .i64 0, .int .i64 0, .int .i64 0, .int .i64 0, .string (⟨#[]⟩ : ByteArray), .slice none 0 0]) (t := 31) ?hr ?_; (case hd => rfl); (case hg => rfl); (case hr => first | (go_simp; done) | (go_simp; rfl)); intro gb519 hg w48 hbox hb; have n0_ := Aside0.mk (Kd.V_below (Kd.V_elderB (by (with_reducible repeat (first | apply Kd.V_alloc | apply Kd.V_drewN | apply Kd.V_drew)); exact HO516.out) gb519 (Nat.le_of_eq hg.symm)) hb); have n1_ := Aside0.mk (below_step (qS7_1 HB.out) hb); have n2_ := Aside0.mk (hbox); have n3_ := Aside0.mk ((by rw [hg]; exact (below_size (qS7_1 HB.out)) : w.heap.size ≤ gb519)); have n4_ := n3_; clear HO516; clear HB; have HO516 := n0_; have HB := n1_; have BK519 := n2_; have GW519 := n3_; have GE519 := n4_; clear n0_ n1_ n2_ n3_ n4_; clear hb hbox hg; obtain ⟨hcz49_0, hcz49_1, hcz49_2, hcz49_3, hcz49_4, hcz49_5, hcz49_6, hcz49_7, hcz49_8, hcz49_9, hfz49_0, hfz49_1, hfz49_2, hfz49_3, hfz49_4, hfz49_5, hfz49_6, hfz49_7, hfz49_8, hfz49_9⟩ := zC10 BK519.out; obtain ⟨Ao50, co50, eo50⟩ := Kd.V_slice HO516.out; subst eo50) | ((with_reducible refine gate_callee (f := 14) rfl ?_); refine goesL_ (some 57) rfl rfl Tryz.func14 (by kernel_rfl) rfl #[.string (x7_1 ++ (⟨#[41]⟩ : ByteArray))] rfl (by (try simp only [List.map_toArray, List.map_cons, List.map_nil]); first | done | rfl | (simp only [List.length_drop, List.length_take]; rfl)) ?_; (with_reducible refine (tree_Parse.calls k1 (x7_1 ++ (⟨#[41]⟩ : ByteArray)) t520 t521 t522 t523 t524 t525 t526 t527 t528 t529 t532 t533 _ ?side1 A24.out).mono ?_); (case side1 => exact gl_4_4 (qS7_2 HB.out) hG); rintro e w51 ⟨v530, rfl, ho0, hb⟩; refine ⟨_, rfl, ?_⟩; have n0_ := Aside0.mk (Kd.V_below (by (with_reducible repeat (first | apply Kd.V_alloc | apply Kd.V_drewN | apply Kd.V_drew)); exact (Kd.V_mono (Kd.V_far (p := ⟨gb519, 9, none⟩) (Kd.V_far (p := ⟨gb519, 8, none⟩) (Kd.V_far (p := ⟨gb519, 7, none⟩) (Kd.V_far (p := ⟨gb519, 6, none⟩) (Kd.V_far (p := ⟨gb519, 5, none⟩) (Kd.V_far (p := ⟨gb519, 4, none⟩) (Kd.V_far (p := ⟨gb519, 3, none⟩) (Kd.V_far (p := ⟨gb519, 2, none⟩) (Kd.V_far (p := ⟨gb519, 1, none⟩) (Kd.V_far (p := ⟨gb519, 0, none⟩) (Kd.V_mono HO516.out (fun k_ hk => (⟨hk, hk.2⟩ : _ ∧ k_ ≠ gb519))) (fun _ hk => hk.2) (.int .i64 t505)) (fun _ hk => hk.2) (.int .i64 t506)) (fun _ hk => hk.2) (.int .i64 t507)) (fun _ hk => hk.2) (.string t508)) (fun _ hk => hk.2) (.int .i64 t509)) (fun _ hk => hk.2) (.int .i64 t510)) (fun _ hk => hk.2) (.int .i64 t511)) (fun _ hk => hk.2) (.int .i64 t512)) (fun _ hk => hk.2) (.string t513)) (fun _ hk => hk.2) (.slice Ao50 t514.length co50)) (fun _ h_ => h_.1))) hb); have n1_ := Aside0.mk (Kd.V_lower (Kd.V_mono (ok' := fun k_ => k_ ≠ gb519) ho0 (fun k_ hk_ => (Kd.freshB (g := gb519) (o := .cells #[.int .i64 t505, .int .i64 t506, .int .i64 t507, .string t508, .int .i64 t509, .int .i64 t510, .int .i64 t511, .int .i64 t512, .string t513, .slice Ao50 t514.length co50] 31 (0, 0)) (by exact zB (zP10 (zB BK519.out))) k_ hk_))) (below_size (qS7_2 HB.out))); have n2_ := Aside0.mk (blk_below (g := gb519) (o := .cells #[.int .i64 t505, .int .i64 t506, .int .i64 t507, .string t508, .int .i64 t509, .int .i64 t510, .int .i64 t511, .int .i64 t512, .string t513, .slice Ao50 t514.length co50] 31 (0, 0)) (by exact zB (zP10 (zB BK519.out))) hb); have n3_ := Aside0.mk (below_step (qS7_2 HB.out) hb); clear HO516; clear BK519; clear HB; have HO516 := n0_; have HO531 := n1_; have BK519 := n2_; have HB := n3_; clear n0_ n1_ n2_ n3_; (try clear hb); (try clear hb2); (try clear hk); (try clear hi); (try clear ho0)) | ((with_reducible refine gate_dst (N := 13) rfl ?_); (try (refine gate_guard (by rfl) ?_; dsimp only)); refine box_event ?hg (N := 13) ?hd (cs := #[.int .i64 0, .int .i64 0, .int .i64 0, .string (⟨#[]⟩ : ByteArray), .int .i64 0, .int .i64 0, .int .i64 0, .int .i64 0, .string (⟨#[]⟩ : ByteArray), .slice none 0 0]) (t := 31) ?hr ?_; (case hd => rfl); (case hg => rfl); (case hr => first | (go_simp; done) | (go_simp; rfl)); intro gb534 hg w52 hbox hb; have n0_ := Aside0.mk (Kd.V_below (Kd.V_elderB (by (with_reducible repeat (first | apply Kd.V_alloc | apply Kd.V_drewN | apply Kd.V_drew)); exact HO516.out) gb534 (Nat.le_of_eq hg.symm)) hb); have n1_ := Aside0.mk (Kd.V_below (Kd.V_elderB (by (with_reducible repeat (first | apply Kd.V_alloc | apply Kd.V_drewN | apply Kd.V_drew)); exact HO531.out) gb534 (Nat.le_of_eq hg.symm)) hb); have n2_ := Aside0.mk (blk_below (g := gb519) (o := .cells #[.int .i64 t505, .int .i64 t506, .int .i64 t507, .string t508, .int .i64 t509, .int .i64 t510, .int .i64 t511, .int .i64 t512, .string t513, .slice Ao50 t514.length co50] 31 (0, 0)) (zB BK519.out) hb); have n3_ := Aside0.mk (below_step (qS7_2 HB.out) hb); have n4_ := Aside0.mk (hbox); have n5_ := Aside0.mk ((by rw [hg]; exact (below_size (qS7_2 HB.out)) : w.heap.size ≤ gb534)); have n6_ := n5_; have n7_ := Aside0.mk ((by rw [hg]; exact Nat.ne_of_lt (blk_lt (g := gb519) (o := .cells #[.int .i64 t505, .int .i64 t506, .int .i64 t507, .string t508, .int .i64 t509, .int .i64 t510, .int .i64 t511, .int .i64 t512, .string t513, .slice Ao50 t514.length co50] 31 (0, 0)) (zB BK519.out)) : gb519 ≠ gb534)); have n8_ := Aside0.mk ((by rw [hg]; exact Nat.ne_of_gt (blk_lt (g := gb519) (o := .cells #[.int .i64 t505, .int .i64 t506, .int .i64 t507, .string t508, .int .i64 t509, .int .i64 t510, .int .i64 t511, .int .i64 t512, .string t513, .slice Ao50 t514.length co50] 31 (0, 0)) (zB BK519.out)) : gb534 ≠ gb519)); clear HO516; clear HO531; clear BK519; clear HB; have HO516 := n0_; have HO531 := n1_; have BK519 := n2_; have HB := n3_; have BK534 := n4_; have GW534 := n5_; have GE534 := n6_; have NB519_534 := n7_; have NB534_519 := n8_; clear n0_ n1_ n2_ n3_ n4_ n5_ n6_ n7_ n8_; clear hb hbox hg; have hnb53 := NB534_519.out; have hnc53 := NB519_534.out; obtain ⟨hcz54_0, hcz54_1, hcz54_2, hcz54_3, hcz54_4, hcz54_5, hcz54_6, hcz54_7, hcz54_8, hcz54_9, hfz54_0, hfz54_1, hfz54_2, hfz54_3, hfz54_4, hfz54_5, hfz54_6, hfz54_7, hfz54_8, hfz54_9⟩ := zC10 BK534.out; obtain ⟨Ao55, co55, eo55⟩ := Kd.V_slice HO531.out; subst eo55; obtain ⟨hcz56_0, hcz56_1, hcz56_2, hcz56_3, hcz56_4, hcz56_5, hcz56_6, hcz56_7, hcz56_8, hcz56_9, hfz56_0, hfz56_1, hfz56_2, hfz56_3, hfz56_4, hfz56_5, hfz56_6, hfz56_7, hfz56_8, hfz56_9⟩ := zC10 BK519.out) | (go_at_call 19; (with_reducible refine (tree_Same.calls k1 t505 t506 t507 t508 t509 t510 t511 t512 t513 _ _ t514 t520 t521 t522 t523 t524 t525 t526 t527 t528 _ _ t529 true _ ?side1 ?side2 ?side3 ?side4 A44.out).mono ?_); (case side1 => refine (Kd.V_reads' (e := 31) (base := w.heap.size) (ok := fun k_ => ((True ∧ k_ ≠ gb519) ∧ k_ ≠ gb534)) (n := t514.length) (c := co50) ?_).2.2; exact (by (with_reducible repeat (first | apply Kd.V_alloc | apply Kd.V_drewN | apply Kd.V_drew)); exact (Kd.V_mono (Kd.V_far (p := ⟨gb534, 9, none⟩) (Kd.V_far (p := ⟨gb534, 8, none⟩) (Kd.V_far (p := ⟨gb534, 7, none⟩) (Kd.V_far (p := ⟨gb534, 6, none⟩) (Kd.V_far (p := ⟨gb534, 5, none⟩) (Kd.V_far (p := ⟨gb534, 4, none⟩) (Kd.V_far (p := ⟨gb534, 3, none⟩) (Kd.V_far (p := ⟨gb534, 2, none⟩) (Kd.V_far (p := ⟨gb534, 1, none⟩) (Kd.V_far (p := ⟨gb534, 0, none⟩) (Kd.V_mono HO516.out (fun k_ hk => (⟨hk, hk.2⟩ : _ ∧ k_ ≠ gb534))) (fun _ hk => hk.2) (.int .i64 t520)) (fun _ hk => hk.2) (.int .i64 t521)) (fun _ hk => hk.2) (.int .i64 t522)) (fun _ hk => hk.2) (.string t523)) (fun _ hk => hk.2) (.int .i64 t524)) (fun _ hk => hk.2) (.int .i64 t525)) (fun _ hk => hk.2) (.int .i64 t526)) (fun _ hk => hk.2) (.int .i64 t527)) (fun _ hk => hk.2) (.string t528)) (fun _ hk => hk.2) (.slice Ao55 t529.length co55)) (fun _ h_ => h_.1)))); (case side2 => exact (Kd.V_reads' HO516.out).2.1); (case side3 => refine (Kd.V_reads' (e := 31) (base := w.heap.size) (ok := fun k_ => (k_ ≠ gb519 ∧ k_ ≠ gb534)) (n := t529.length) (c := co55) ?_).2.2; exact (by (with_reducible repeat (first | apply Kd.V_alloc | apply Kd.V_drewN | apply Kd.V_drew)); exact (Kd.V_mono (Kd.V_far (p := ⟨gb534, 9, none⟩) (Kd.V_far (p := ⟨gb534, 8, none⟩) (Kd.V_far (p := ⟨gb534, 7, none⟩) (Kd.V_far (p := ⟨gb534, 6, none⟩) (Kd.V_far (p := ⟨gb534, 5, none⟩) (Kd.V_far (p := ⟨gb534, 4, none⟩) (Kd.V_far (p := ⟨gb534, 3, none⟩) (Kd.V_far (p := ⟨gb534, 2, none⟩) (Kd.V_far (p := ⟨gb534, 1, none⟩) (Kd.V_far (p := ⟨gb534, 0, none⟩) (Kd.V_mono HO531.out (fun k_ hk => (⟨hk, hk.2⟩ : _ ∧ k_ ≠ gb534))) (fun _ hk => hk.2) (.int .i64 t520)) (fun _ hk => hk.2) (.int .i64 t521)) (fun _ hk => hk.2) (.int .i64 t522)) (fun _ hk => hk.2) (.string t523)) (fun _ hk => hk.2) (.int .i64 t524)) (fun _ hk => hk.2) (.int .i64 t525)) (fun _ hk => hk.2) (.int .i64 t526)) (fun _ hk => hk.2) (.int .i64 t527)) (fun _ hk => hk.2) (.string t528)) (fun _ hk => hk.2) (.slice Ao55 t529.length co55)) (fun _ h_ => h_.1)))); (case side4 => exact (Kd.V_reads' HO531.out).2.1); rintro e w57 ⟨rfl, hb⟩; have n0_ := Aside0.mk (Kd.V_below (by (with_reducible repeat (first | apply Kd.V_alloc | apply Kd.V_drewN | apply Kd.V_drew)); exact (Kd.V_mono (Kd.V_far (p := ⟨gb534, 9, none⟩) (Kd.V_far (p := ⟨gb534, 8, none⟩) (Kd.V_far (p := ⟨gb534, 7, none⟩) (Kd.V_far (p := ⟨gb534, 6, none⟩) (Kd.V_far (p := ⟨gb534, 5, none⟩) (Kd.V_far (p := ⟨gb534, 4, none⟩) (Kd.V_far (p := ⟨gb534, 3, none⟩) (Kd.V_far (p := ⟨gb534, 2, none⟩) (Kd.V_far (p := ⟨gb534, 1, none⟩) (Kd.V_far (p := ⟨gb534, 0, none⟩) (Kd.V_mono HO516.out (fun k_ hk => (⟨hk, hk.2⟩ : _ ∧ k_ ≠ gb534))) (fun _ hk => hk.2) (.int .i64 t520)) (fun _ hk => hk.2) (.int .i64 t521)) (fun _ hk => hk.2) (.int .i64 t522)) (fun _ hk => hk.2) (.string t523)) (fun _ hk => hk.2) (.int .i64 t524)) (fun _ hk => hk.2) (.int .i64 t525)) (fun _ hk => hk.2) (.int .i64 t526)) (fun _ hk => hk.2) (.int .i64 t527)) (fun _ hk => hk.2) (.string t528)) (fun _ hk => hk.2) (.slice Ao55 t529.length co55)) (fun _ h_ => h_.1))) hb); have n1_ := Aside0.mk (Kd.V_below (by (with_reducible repeat (first | apply Kd.V_alloc | apply Kd.V_drewN | apply Kd.V_drew)); exact (Kd.V_mono (Kd.V_far (p := ⟨gb534, 9, none⟩) (Kd.V_far (p := ⟨gb534, 8, none⟩) (Kd.V_far (p := ⟨gb534, 7, none⟩) (Kd.V_far (p := ⟨gb534, 6, none⟩) (Kd.V_far (p := ⟨gb534, 5, none⟩) (Kd.V_far (p := ⟨gb534, 4, none⟩) (Kd.V_far (p := ⟨gb534, 3, none⟩) (Kd.V_far (p := ⟨gb534, 2, none⟩) (Kd.V_far (p := ⟨gb534, 1, none⟩) (Kd.V_far (p := ⟨gb534, 0, none⟩) (Kd.V_mono HO531.out (fun k_ hk => (⟨hk, hk.2⟩ : _ ∧ k_ ≠ gb534))) (fun _ hk => hk.2) (.int .i64 t520)) (fun _ hk => hk.2) (.int .i64 t521)) (fun _ hk => hk.2) (.int .i64 t522)) (fun _ hk => hk.2) (.string t523)) (fun _ hk => hk.2) (.int .i64 t524)) (fun _ hk => hk.2) (.int .i64 t525)) (fun _ hk => hk.2) (.int .i64 t526)) (fun _ hk => hk.2) (.int .i64 t527)) (fun _ hk => hk.2) (.string t528)) (fun _ hk => hk.2) (.slice Ao55 t529.length co55)) (fun _ h_ => h_.1))) hb); have n2_ := Aside0.mk (blk_below (g := gb519) (o := .cells #[.int .i64 t505, .int .i64 t506, .int .i64 t507, .string t508, .int .i64 t509, .int .i64 t510, .int .i64 t511, .int .i64 t512, .string t513, .slice Ao50 t514.length co50] 31 (0, 0)) (by refine zB (blk_far ?_ NB519_534.out _); refine zB ?_; refine blk_far ?_ NB519_534.out _; refine zB (blk_far ?_ NB519_534.out _); refine zB ?_; refine blk_far ?_ NB519_534.out _; refine zB (blk_far ?_ NB519_534.out _); refine zB ?_; refine blk_far ?_ NB519_534.out _; refine zB (blk_far ?_ NB519_534.out _); refine zB ?_; refine blk_far ?_ NB519_534.out _; refine zB (blk_far ?_ NB519_534.out _); refine zB (blk_far ?_ NB519_534.out _); refine zB ?_; exact BK519.out) hb); have n3_ := Aside0.mk (blk_below (g := gb534) (o := .cells #[.int .i64 t520, .int .i64 t521, .int .i64 t522, .string t523, .int .i64 t524, .int .i64 t525, .int .i64 t526, .int .i64 t527, .string t528, .slice Ao55 t529.length co55] 31 (0, 0)) (by exact zB (zP10 (zB BK534.out))) hb); have n4_ := Aside0.mk (below_step (qS7_3 HB.out) hb); clear HO516; clear HO531; clear BK519; clear BK534; clear HB; have HO516 := n0_; have HO531 := n1_; have BK519 := n2_; have BK534 := n3_; have HB := n4_; clear n0_ n1_ n2_ n3_ n4_; (try clear hb); (try clear hb2); (try clear hk); (try clear hi)) | (go_at_call 13; (with_reducible refine (pannierlaw05_wakes.calls k1  t537 _ ?side1 A46.out).mono ?_); (case side1 => exact gl_4_4 (qS7_3 HB.out) hG); rintro e w58 ⟨rfl, hb⟩; have n0_ := Aside0.mk (Kd.V_below (by (with_reducible repeat (first | apply Kd.V_alloc | apply Kd.V_drewN | apply Kd.V_drew)); exact HO516.out) hb); have n1_ := Aside0.mk (Kd.V_below (by (with_reducible repeat (first | apply Kd.V_alloc | apply Kd.V_drewN | apply Kd.V_drew)); exact HO531.out) hb); have n2_ := Aside0.mk (blk_below (g := gb519) (o := .cells #[.int .i64 t505, .int .i64 t506, .int .i64 t507, .string t508, .int .i64 t509, .int .i64 t510, .int .i64 t511, .int .i64 t512, .string t513, .slice Ao50 t514.length co50] 31 (0, 0)) (zB BK519.out) hb); have n3_ := Aside0.mk (blk_below (g := gb534) (o := .cells #[.int .i64 t520, .int .i64 t521, .int .i64 t522, .string t523, .int .i64 t524, .int .i64 t525, .int .i64 t526, .int .i64 t527, .string t528, .slice Ao55 t529.length co55] 31 (0, 0)) (zB BK534.out) hb); have n4_ := Aside0.mk (below_step (qS7_3 HB.out) hb); clear HO516; clear HO531; clear BK519; clear BK534; clear HB; have HO516 := n0_; have HO531 := n1_; have BK519 := n2_; have BK534 := n3_; have HB := n4_; clear n0_ n1_ n2_ n3_ n4_; (try clear hb); (try clear hb2); (try clear hk); (try clear hi)))
                          go_ret
                          exact ⟨by first | rfl | (simp [errW_none, errW_some] <;> rfl) | (simp [*, errW_none, errW_some] <;> rfl), by repeat first | with_reducible exact HB.out | apply zS | refine below_set ?_ GE519.out | refine below_set ?_ GE534.out | exact HB.out⟩
                        · replace c45 := Bool.eq_false_iff.mpr c45
                          subst c45
                          have H1 : (none) = some r := by rw [if_neg (show ¬ (false = true) by decide)] at H; exact H
                          clear H
                          have H := H1
                          clear H1
                          exact absurd H (by simp)
                      · rw [if_neg c43] at H
                        exact absurd H (by simp)
                    · rw [if_neg c42] at H
                      exact absurd H (by simp)
                  · rw [if_neg c41] at H
                    exact absurd H (by simp)
                · rw [if_neg c40] at H
                  exact absurd H (by simp)
              · rw [if_neg c39] at H
                exact absurd H (by simp)
          · rw [if_neg c23] at H
            exact absurd H (by simp)
        · rw [if_neg c21] at H
          exact absurd H (by simp)
end Go.Proofs.YtpcnaoipenclnaaGreatDoor.P

namespace Go.Proofs.YtpcnaoipenclnaaGreatDoor.P
open Go.RowKit Go.Proofs.YtpcnaoipenclnaaGreatDoorW.PrintWords Go.Proofs.YtpcnaoipenclnaaGreatDoorW.PrintLast Go.Proofs.YtpcnaoipenclnaaGreatDoorW.PrintMore
open M (I64)
set_option linter.unusedVariables false
set_option linter.unusedSimpArgs false
abbrev LTok := S109
def cutL : Nat → List UInt8 → Nat → List LTok × Int × Int
  | 0, _, _ => ([], 0, 0)
  | _ + 1, [], _ => ([], 0, 0)
  | d + 1, c :: r, n =>
    if kindOf (c.toNat : Int) = 1 then cutL d r (n + 1) else
      match oneV ⟨(c :: r).toArray⟩ with
      | (ta, tb, tc, _, tm) =>
        if tm = 0 then ([], (n : Int), 12) else
          match cutL d ((c :: r).drop tm.toNat) (n + tm.toNat) with
          | (ts, p, e) => if e = 0 then (⟨ta, tb, tc, (n : Int)⟩ :: ts, p, e) else ([], p, e)
def cutR (R : List LTok × Int × Int) : List LTok × Int × Int := if R.2.2 = 0 then (R.1, 0, 0) else ([], R.2.1, R.2.2)
theorem xrest_size (s : ByteArray) (n : Nat) : (s.extract n s.size).size = s.size - n := by rw [ByteArray.size_extract]; omega
theorem xrest (s : ByteArray) (n : Nat) : s.extract n s.size = ⟨(s.data.toList.drop n).toArray⟩ := by
  apply ByteArray.ext
  rw [← Array.toList_inj, ByteArray.data_extract, Array.toList_extract, List.extract_eq_take_drop]
  rw [List.take_of_length_le (by simp)]
theorem xtextF_len (s : ByteArray) : ∀ (d i : Nat) (out : List UInt8), ∃ w : Nat, (textF s d i out).2 = (w : Int) ∧ w ≤ s.size
  | 0, i, out => ⟨0, rfl, Nat.zero_le _⟩
  | d + 1, i, out => by
    unfold textF
    split
    · split
      · split
        · exact ⟨i + 1, rfl, by omega⟩
        · exact xtextF_len s d (i + 2) _
      · exact xtextF_len s d (i + 1) _
    · exact ⟨0, rfl, Nat.zero_le _⟩
theorem xoneV_len (s : ByteArray) (h : 0 < s.size) : ∃ w : Nat, (oneV s).2.2.2.2 = (w : Int) ∧ w ≤ s.size := by
  unfold oneV
  split
  · split
    · exact ⟨_, rfl, (runN_le digP s s.size 0 (by omega)).1⟩
    · exact ⟨0, rfl, Nat.zero_le _⟩
  · split
    · exact xtextF_len s _ _ _
    · split
      · exact ⟨_, rfl, (runN_le wordP s s.size 0 (by omega)).1⟩
      · split
        · exact ⟨_, rfl, (signs_le s h).2⟩
        · exact ⟨0, rfl, Nat.zero_le _⟩
theorem xone_some (s : ByteArray) (n : Nat) (hs : s.size ≤ 1000000000) (hn : n < s.size) : lex_one.f (s.extract n s.size) = some (oneV (s.extract n s.size)) := by
  unfold lex_one.f; rw [if_pos (by rw [xrest_size]; omega)]
theorem xkind_any (s : ByteArray) (i k : Nat) (hk : 20 ≤ k) : lex_kind.f k (bt s (i : Int)) = some (kindOf (bt s (i : Int))) := at_rounds (lex_kind.mono _) hk (kind_bt s i)
theorem xbt (s : ByteArray) (n : Nat) (h : n < s.size) : bt s (n : Int) = (((s.data.toList[n]'(by simpa using h)).toNat : Nat) : Int) := by
  rw [bt_bu]
  unfold bu
  rw [List.getD_eq_getElem?_getD, List.getElem?_eq_getElem (by simpa using h)]
  rfl
def addR (l : List LTok) (R : List LTok × Int × Int) : List LTok × Int × Int := if R.2.2 = 0 then (l ++ R.1, 0, 0) else ([], R.2.1, R.2.2)
theorem addR_ok (l ts : List LTok) (p : Int) : addR l (ts, p, 0) = (l ++ ts, 0, 0) := rfl
theorem addR_no (l ts : List LTok) (p : Int) {e : Int} (h : e ≠ 0) : addR l (ts, p, e) = ([], p, e) := if_neg h
theorem cutL_loop (s : ByteArray) (hs : s.size ≤ 1000000) : ∀ (d n k : Nat) (l : List LTok), s.size - n ≤ d → n ≤ s.size → d + 20 < k → l.length ≤ n →
    lex_Cut.l0 k s l (n : Int) = some (addR l (cutL d (s.data.toList.drop n) n)) := by
  intro d
  induction d with
  | zero =>
    intro n k l hd hn hk hl
    obtain ⟨k, rfl⟩ : ∃ m, k = m + 1 := ⟨k - 1, by omega⟩
    rw [lex_Cut.l0, if_neg (by omega), cutL, addR_ok, List.append_nil]
  | succ d ih =>
    intro n k l hd hn hk hl
    obtain ⟨k, rfl⟩ : ∃ m, k = m + 1 := ⟨k - 1, by omega⟩
    rw [lex_Cut.l0]
    by_cases hlt : n < s.size
    · have hlt' : n < s.data.toList.length := by simpa using hlt
      have hd2 : s.data.toList.drop n = s.data.toList[n] :: s.data.toList.drop (n + 1) := List.drop_eq_getElem_cons hlt'
      rw [if_pos (by omega), if_pos (by omega), xkind_any s n k (by omega), Option.bind_some, hd2, cutL, ← xbt s n hlt]
      by_cases hb : kindOf (bt s (n : Int)) = 1
      · rw [if_pos hb, if_pos hb, show wrap64 ((n : Int) + 1) = ((n + 1 : Nat) : Int) by rw [M.wrap64_id (by unfold I64; omega)]; omega]
        exact ih (n + 1) k l (by omega) (by omega) (by omega) (by omega)
      · rw [if_neg hb, if_neg hb, if_pos (by omega)]
        have ho : lex_one.f (s.extract ((n : Int)).toNat s.size) = some (oneV (s.extract n s.size)) := xone_some s n (by omega) hlt
        obtain ⟨w, hw, hwl⟩ := xoneV_len (s.extract n s.size) (by rw [xrest_size]; omega)
        rw [xrest_size] at hwl
        rw [ho, Option.bind_some, ← hd2, ← xrest]
        clear ho
        generalize oneV (s.extract n s.size) = t at *
        obtain ⟨ta, tb, tc, td, tm⟩ := t
        have hw' : tm = (w : Int) := hw
        subst hw'
        dsimp only
        by_cases hz : (w : Int) = 0
        · rw [if_pos hz, if_pos hz]; rfl
        · rw [if_neg hz, if_neg hz, if_pos (by omega)]
          have hwr : wrap64 ((n : Int) + (w : Int)) = ((n + w : Nat) : Int) := by rw [M.wrap64_id (by unfold I64; omega)]; omega
          have b3 : (l ++ [(⟨ta, tb, tc, (n : Int)⟩ : LTok)]).length ≤ n + w := by rw [List.length_append, List.length_singleton]; omega
          have := ih (n + w) k (l ++ [(⟨ta, tb, tc, (n : Int)⟩ : LTok)]) (by omega) (by omega) (by omega) b3
          rw [hwr, this, List.drop_drop, show ((w : Int)).toNat = w by omega]
          generalize cutL d (s.data.toList.drop (n + w)) (n + w) = R
          obtain ⟨ts, p, e⟩ := R
          dsimp only
          by_cases he : e = 0
          · subst he; rw [if_pos rfl, addR_ok, addR_ok, List.append_assoc]; rfl
          · rw [if_neg he, addR_no _ _ _ he, addR_no _ _ _ he]
    · rw [if_neg (by omega), List.drop_of_length_le (by simpa using Nat.le_of_not_lt hlt), cutL, addR_ok, List.append_nil]
theorem cut_list (s : ByteArray) (hs : s.size ≤ 300) (k : Nat) (hk : 400 ≤ k) : lex_Cut.f k s = some (cutR (cutL s.size s.data.toList 0)) := by
  unfold lex_Cut.f
  rw [if_neg (by omega)]
  have h := cutL_loop s (by omega) s.size 0 k [] (by omega) (Nat.zero_le _) (by omega) (Nat.le_refl _)
  rw [List.drop_zero] at h
  exact h
end Go.Proofs.YtpcnaoipenclnaaGreatDoor.P

namespace Go.Proofs.YtpcnaoipenclnaaGreatDoor.P
open Go.RowKit Go.Proofs.YtpcnaoipenclnaaGreatDoorW.PrintWords Go.Proofs.YtpcnaoipenclnaaGreatDoorW.PrintLast Go.Proofs.YtpcnaoipenclnaaGreatDoorW.PrintMore
set_option linter.unusedVariables false
def parseQ (l : List UInt8) : Option NodeR :=
  match cutR (cutL l.length l 0) with
  | (toks, p, c) => if c ≠ 0 then some (badR p c) else if toks.length ≤ 1000000 ∧ (toks.all fun t => decide (t.f2.size ≤ 1000000)) = true then tokR 900 toks (l.length : Int) else none
def codeR (R : NodeR) : Int := R.2.2.2.2.2.2.2.2.2.2.2
theorem parse_Q (s : ByteArray) (hs : s.size ≤ 300) (R : NodeR) (h : parseQ s.data.toList = some R) (k : Nat) (hk : 900 ≤ k) : tree_Parse.f k s = some R := by
  have hl : s.data.toList.length = s.size := rfl
  unfold parseQ at h
  rw [hl] at h
  unfold tree_Parse.f
  rw [if_pos (by omega), cut_list s hs k (by omega)]
  cases e : cutR (cutL s.size s.data.toList 0) with
  | mk toks x =>
    obtain ⟨p, c⟩ := x
    rw [e] at h
    dsimp only at h ⊢
    by_cases h0 : c ≠ 0
    · rw [if_pos h0] at h ⊢; exact h
    · rw [if_neg h0] at h ⊢
      by_cases hq : toks.length ≤ 1000000 ∧ (toks.all fun t => decide (t.f2.size ≤ 1000000)) = true
      · rw [if_pos hq] at h ⊢
        exact at_rounds (fun k r h => tokR_mono k toks (s.size : Int) r h) hk h
      · rw [if_neg hq] at h; cases h
end Go.Proofs.YtpcnaoipenclnaaGreatDoor.P

namespace Go.Proofs.YtpcnaoipenclnaaGreatDoor.P
open Go.RowKit Go.Proofs.YtpcnaoipenclnaaGreatDoorW.PrintWords Go.Proofs.YtpcnaoipenclnaaGreatDoorW.PrintLast Go.Proofs.YtpcnaoipenclnaaGreatDoorW.PrintMore
open M (I64)
set_option linter.unusedVariables false
set_option maxRecDepth 100000
theorem args_wakes : pannierlaw05_wakes.f 1000 = some true := by decide +kernel
def digB (k i : Nat) : UInt8 := UInt8.ofNat (48 + (k + i) % 10)
def argsA (k : Nat) : Nat → List UInt8
  | 0 => [83, 85, 77, 40]
  | i + 1 => argsA k i ++ ((if i = 0 then [] else [44]) ++ [digB k i])
def argsB (k : Nat) : Nat → List UInt8
  | 0 => [115, 117, 109, 32, 40, 32]
  | i + 1 => argsB k i ++ ((if i = 0 then [] else [32, 44, 32]) ++ ([40] ++ [digB k i] ++ [32, 41]))
def same2 (X Y : NodeR) : Option Bool := tree_Same.f 2500 X.1 X.2.1 X.2.2.1 X.2.2.2.1 X.2.2.2.2.1 X.2.2.2.2.2.1 X.2.2.2.2.2.2.1 X.2.2.2.2.2.2.2.1 X.2.2.2.2.2.2.2.2.1 X.2.2.2.2.2.2.2.2.2.1 Y.1 Y.2.1 Y.2.2.1 Y.2.2.2.1 Y.2.2.2.2.1 Y.2.2.2.2.2.1 Y.2.2.2.2.2.2.1 Y.2.2.2.2.2.2.2.1 Y.2.2.2.2.2.2.2.2.1 Y.2.2.2.2.2.2.2.2.2.1
def argsOk (many : Nat) (x y : Option NodeR) : Bool :=
  match x, y with
  | some X, some Y =>
    if 10 < many then decide (codeR X = 13) && decide (codeR Y = 13) else
      decide (codeR X = 0) && decide (codeR Y = 0) && decide (X.1 = 6) && decide (X.2.2.2.2.2.2.2.2.2.1.length = many) && decide (X.2.2.2.2.2.2.2.2.1.toList = ([83, 85, 77] : List UInt8)) && decide (same2 X Y = some true)
  | _, _ => false
theorem args_0 : ∀ k : Fin 10, argsOk 0 (parseQ (argsA k.val 0 ++ [41])) (parseQ (argsB k.val 0 ++ [41])) = true := by decide +kernel
theorem args_1 : ∀ k : Fin 10, argsOk 1 (parseQ (argsA k.val 1 ++ [41])) (parseQ (argsB k.val 1 ++ [41])) = true := by decide +kernel
theorem args_2 : ∀ k : Fin 10, argsOk 2 (parseQ (argsA k.val 2 ++ [41])) (parseQ (argsB k.val 2 ++ [41])) = true := by decide +kernel
theorem args_3 : ∀ k : Fin 10, argsOk 3 (parseQ (argsA k.val 3 ++ [41])) (parseQ (argsB k.val 3 ++ [41])) = true := by decide +kernel
theorem args_4 : ∀ k : Fin 10, argsOk 4 (parseQ (argsA k.val 4 ++ [41])) (parseQ (argsB k.val 4 ++ [41])) = true := by decide +kernel
theorem args_5 : ∀ k : Fin 10, argsOk 5 (parseQ (argsA k.val 5 ++ [41])) (parseQ (argsB k.val 5 ++ [41])) = true := by decide +kernel
theorem args_6 : ∀ k : Fin 10, argsOk 6 (parseQ (argsA k.val 6 ++ [41])) (parseQ (argsB k.val 6 ++ [41])) = true := by decide +kernel
theorem args_7 : ∀ k : Fin 10, argsOk 7 (parseQ (argsA k.val 7 ++ [41])) (parseQ (argsB k.val 7 ++ [41])) = true := by decide +kernel
theorem args_8 : ∀ k : Fin 10, argsOk 8 (parseQ (argsA k.val 8 ++ [41])) (parseQ (argsB k.val 8 ++ [41])) = true := by decide +kernel
theorem args_9 : ∀ k : Fin 10, argsOk 9 (parseQ (argsA k.val 9 ++ [41])) (parseQ (argsB k.val 9 ++ [41])) = true := by decide +kernel
theorem args_10 : ∀ k : Fin 10, argsOk 10 (parseQ (argsA k.val 10 ++ [41])) (parseQ (argsB k.val 10 ++ [41])) = true := by decide +kernel
theorem args_11 : ∀ k : Fin 10, argsOk 11 (parseQ (argsA k.val 11 ++ [41])) (parseQ (argsB k.val 11 ++ [41])) = true := by decide +kernel
theorem args_12 : ∀ k : Fin 10, argsOk 12 (parseQ (argsA k.val 12 ++ [41])) (parseQ (argsB k.val 12 ++ [41])) = true := by decide +kernel
theorem args_cases (many : Nat) (hm : many < 13) (k : Fin 10) : argsOk many (parseQ (argsA k.val many ++ [41])) (parseQ (argsB k.val many ++ [41])) = true := by
  match many, hm with
  | 0, _ => exact args_0 k
  | 1, _ => exact args_1 k
  | 2, _ => exact args_2 k
  | 3, _ => exact args_3 k
  | 4, _ => exact args_4 k
  | 5, _ => exact args_5 k
  | 6, _ => exact args_6 k
  | 7, _ => exact args_7 k
  | 8, _ => exact args_8 k
  | 9, _ => exact args_9 k
  | 10, _ => exact args_10 k
  | 11, _ => exact args_11 k
  | 12, _ => exact args_12 k
  | n + 13, h => omega
theorem args_len (k : Nat) : ∀ i, (argsA k i).length ≤ 4 + 2 * i ∧ (argsB k i).length ≤ 6 + 7 * i := by
  intro i
  induction i with
  | zero => exact ⟨Nat.le_refl 4, Nat.le_refl 6⟩
  | succ i ih =>
    rw [argsA, argsB]
    by_cases h : i = 0
    · rw [if_pos h, if_pos h]; simp only [List.length_append, List.length_cons, List.length_nil]; omega
    · rw [if_neg h, if_neg h]; simp only [List.length_append, List.length_cons, List.length_nil]; omega
theorem abs_app (l m : List UInt8) : (⟨l.toArray⟩ : ByteArray) ++ ⟨m.toArray⟩ = ⟨(l ++ m).toArray⟩ := by
  apply ByteArray.ext
  rw [ByteArray.data_append, List.append_toArray]
theorem abs_size (l : List UInt8) : (⟨l.toArray⟩ : ByteArray).size = l.length := rfl
theorem args_digit (a1 : Int) (ha : 0 ≤ a1 ∧ a1 ≤ 255) (i : Nat) (hi : i < 13) : strOfNums [(48 + ((Int.tmod (wrap64 ((wrap64 (a1)) + (i : Int))) 10) % 256)) % 256] = ⟨([digB (a1.toNat % 10) i] : List UInt8).toArray⟩ := by
  have h1 : wrap64 a1 = a1 := M.wrap64_id (by unfold I64; omega)
  have h2 : wrap64 (a1 + (i : Int)) = a1 + (i : Int) := M.wrap64_id (by unfold I64; omega)
  rw [h1, h2, Int.tmod_eq_emod_of_nonneg (by omega)]
  have h3 : (48 + ((a1 + (i : Int)) % 10 % 256)) % 256 = ((48 + (a1.toNat % 10 + i) % 10 : Nat) : Int) := by omega
  rw [h3, strOfNums_one _ (by omega) (by omega)]
  rfl
theorem args_loop (many : Nat) (hm : many < 13) (a1 : Int) (ha : 0 ≤ a1 ∧ a1 ≤ 255) : ∀ (d i k : Nat), i + d = many → d + 2600 ≤ k →
    pannierlaw05_TreeArgs.l0 k a1 (many : Int) ⟨(argsA (a1.toNat % 10) i).toArray⟩ ⟨(argsB (a1.toNat % 10) i).toArray⟩ (i : Int) = some true := by
  have hA : ∀ i, (argsA (a1.toNat % 10) i).length ≤ 4 + 2 * i := fun i => (args_len _ i).1
  have hB : ∀ i, (argsB (a1.toNat % 10) i).length ≤ 6 + 7 * i := fun i => (args_len _ i).2
  intro d
  induction d with
  | zero =>
    intro i k hi hk
    obtain ⟨k, rfl⟩ : ∃ m, k = m + 1 := ⟨k - 1, by omega⟩
    obtain rfl : i = many := by omega
    have h := args_cases i hm ⟨a1.toNat % 10, Nat.mod_lt _ (by decide)⟩
    dsimp only at h
    have hw : pannierlaw05_wakes.f k = some true := at_rounds pannierlaw05_wakes.mono (by omega) args_wakes
    have h41 : (⟨#[41]⟩ : ByteArray) = ⟨([41] : List UInt8).toArray⟩ := rfl
    have lA := hA i
    have lB := hB i
    cases e1 : parseQ (argsA (a1.toNat % 10) i ++ [41]) with
    | none => rw [e1] at h; cases h
    | some X =>
      cases e2 : parseQ (argsB (a1.toNat % 10) i ++ [41]) with
      | none => rw [e1, e2] at h; cases h
      | some Y =>
        rw [e1, e2] at h
        have p1 := parse_Q ⟨(argsA (a1.toNat % 10) i ++ [41]).toArray⟩ (by rw [abs_size, List.length_append, List.length_singleton]; omega) X e1 k (by omega)
        have p2 := parse_Q ⟨(argsB (a1.toNat % 10) i ++ [41]).toArray⟩ (by rw [abs_size, List.length_append, List.length_singleton]; omega) Y e2 k (by omega)
        rw [pannierlaw05_TreeArgs.l0, if_neg (by omega), h41, abs_app, abs_app, if_pos (by rw [abs_size]; omega), p1, Option.bind_some, if_pos (by rw [abs_size]; omega), p2, Option.bind_some, hw]
        unfold argsOk at h
        dsimp only at h
        by_cases h10 : 10 < i
        · rw [if_pos h10] at h
          simp only [Bool.and_eq_true, decide_eq_true_eq] at h
          have c1 : X.2.2.2.2.2.2.2.2.2.2.2 = 13 := h.1
          have c2 : Y.2.2.2.2.2.2.2.2.2.2.2 = 13 := h.2
          rw [if_pos (show (i : Int) > 10 by omega), if_pos c1, if_pos c2, Option.bind_some]
        · rw [if_neg h10] at h
          simp only [Bool.and_eq_true, decide_eq_true_eq] at h
          obtain ⟨⟨⟨⟨⟨c1, c2⟩, c3⟩, c4⟩, c5⟩, c6⟩ := h
          have c1' : X.2.2.2.2.2.2.2.2.2.2.2 = 0 := c1
          have c2' : Y.2.2.2.2.2.2.2.2.2.2.2 = 0 := c2
          have c6' := at_rounds (tree_Same.mono X.1 X.2.1 X.2.2.1 X.2.2.2.1 X.2.2.2.2.1 X.2.2.2.2.2.1 X.2.2.2.2.2.2.1 X.2.2.2.2.2.2.2.1 X.2.2.2.2.2.2.2.2.1 X.2.2.2.2.2.2.2.2.2.1 Y.1 Y.2.1 Y.2.2.1 Y.2.2.2.1 Y.2.2.2.2.1 Y.2.2.2.2.2.1 Y.2.2.2.2.2.2.1 Y.2.2.2.2.2.2.2.1 Y.2.2.2.2.2.2.2.2.1 Y.2.2.2.2.2.2.2.2.2.1) (show 2500 ≤ k by omega) c6
          rw [if_neg (show ¬ (i : Int) > 10 by omega), if_pos c1', if_pos c2', if_pos c3, if_pos (show ((X.2.2.2.2.2.2.2.2.2.1.length : Nat) : Int) = (i : Int) by omega), if_pos c5, c6', Option.bind_some, if_pos rfl, Option.bind_some]
  | succ d ih =>
    intro i k hi hk
    obtain ⟨k, rfl⟩ : ∃ m, k = m + 1 := ⟨k - 1, by omega⟩
    have hd := args_digit a1 ha i (by omega)
    have lA := hA i
    have lB := hB i
    have hn := ih (i + 1) k (by omega) (by omega)
    have hw : wrap64 ((i : Int) + 1) = ((i + 1 : Nat) : Int) := by rw [M.wrap64_id (by unfold I64; omega)]; omega
    rw [pannierlaw05_TreeArgs.l0, if_pos (by omega)]
    rw [argsA, argsB] at hn
    by_cases h0 : i = 0
    · subst h0
      rw [if_neg (by decide), Option.bind_some, hd, hw]
      rw [if_pos rfl, if_pos rfl, List.nil_append, List.nil_append] at hn
      rw [show (⟨#[40]⟩ : ByteArray) = ⟨([40] : List UInt8).toArray⟩ from rfl, show (⟨#[32, 41]⟩ : ByteArray) = ⟨([32, 41] : List UInt8).toArray⟩ from rfl, abs_app, abs_app, abs_app, abs_app]
      simp only [abs_size, List.length_append, List.length_cons, List.length_nil]
      rw [if_pos (by omega), if_pos (by omega), if_pos (by omega), if_pos (by omega)]
      exact hn
    · rw [if_pos (show (i : Int) > 0 by omega), Option.bind_some, hd, hw]
      rw [if_neg h0, if_neg h0, ← List.append_assoc, ← List.append_assoc] at hn
      rw [show (⟨#[40]⟩ : ByteArray) = ⟨([40] : List UInt8).toArray⟩ from rfl, show (⟨#[32, 41]⟩ : ByteArray) = ⟨([32, 41] : List UInt8).toArray⟩ from rfl, show (⟨#[44]⟩ : ByteArray) = ⟨([44] : List UInt8).toArray⟩ from rfl, show (⟨#[32, 44, 32]⟩ : ByteArray) = ⟨([32, 44, 32] : List UInt8).toArray⟩ from rfl, abs_app, abs_app, abs_app, abs_app, abs_app, abs_app]
      simp only [abs_size, List.length_append, List.length_cons, List.length_nil]
      rw [if_pos (by omega), if_pos (by omega), if_pos (by omega), if_pos (by omega), if_pos (by omega), if_pos (by omega)]
      exact hn
theorem TreeArgs_pure (a0 a1 : Int) (h0 : (Lit.int .u8 a0).wf = true) (h1 : (Lit.int .u8 a1).wf = true) : ∃ k, pannierlaw05_TreeArgs.f k a0 a1 = some true := by
  have g0 : 0 ≤ a0 ∧ a0 ≤ 255 := by simp [Lit.wf, IntKind.min, IntKind.max, IntKind.signed, IntKind.bits] at h0; omega
  have g1 : 0 ≤ a1 ∧ a1 ≤ 255 := by simp [Lit.wf, IntKind.min, IntKind.max, IntKind.signed, IntKind.bits] at h1; omega
  refine ⟨3000, ?_⟩
  unfold pannierlaw05_TreeArgs.f
  have hw : wrap64 a0 = a0 := M.wrap64_id (by unfold I64; omega)
  have hm : Int.tmod a0 13 = ((a0.toNat % 13 : Nat) : Int) := by
    rw [Int.tmod_eq_emod_of_nonneg g0.1]; omega
  rw [hw, hm]
  exact args_loop (a0.toNat % 13) (Nat.mod_lt _ (by decide)) a1 g1 (a0.toNat % 13) 0 3000 (by omega) (by omega)
end Go.Proofs.YtpcnaoipenclnaaGreatDoor.P
