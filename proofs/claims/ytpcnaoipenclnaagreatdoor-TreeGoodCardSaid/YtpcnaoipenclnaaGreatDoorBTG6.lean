/- Contracts of the functions that the law reaches, each with the plain function that it comes to, and plain facts about these. -/
import Derived.Test.YtpcnaoipenclnaaGreatDoorBTD2
import Derived.Test.YtpcnaoipenclnaaGreatDoorBTD3
import Derived.Test.YtpcnaoipenclnaaGreatDoorBTD4
import Derived.Test.YtpcnaoipenclnaaGreatDoorBTD5
namespace Go.Proofs.YtpcnaoipenclnaaGreatDoor.P
open Go.RowKit Go.Proofs.YtpcnaoipenclnaaGreatDoorW.PrintWords Go.Proofs.YtpcnaoipenclnaaGreatDoorW.PrintLast Go.Proofs.YtpcnaoipenclnaaGreatDoorW.PrintMore
attribute [local go_sem] max2_int min2_int max_two min_two max_three min_three max_four min_four   -- for this text's walks alone
set_option linter.unusedVariables false
set_option linter.unusedSimpArgs false
def pannierlaw05_wakes.f (k : Nat)  : Option (Bool) := (tree_Parse.f k (⟨#[49, 43, 50, 42, 51]⟩ : ByteArray)).bind fun bt183 => ((tree_Parse.f k (⟨#[45, 50, 94, 50]⟩ : ByteArray)).bind fun bt198 => ((tree_Parse.f k (⟨#[49, 43]⟩ : ByteArray)).bind fun bt213 => (if bt183.2.2.2.2.2.2.2.2.2.2.2 = 0 then (if bt183.2.2.2.2.2.2.2.2.2.2.1 = 0 then (if bt183.1 = 5 then (if bt183.2.2.2.2.2.2.2.2.1.toList = ([43] : List UInt8) then (if (bt183.2.2.2.2.2.2.2.2.2.1.length : Int) = 2 then (if 1 < (bt183.2.2.2.2.2.2.2.2.2.1.length : Int) then (if ((rd_T31 bt183.2.2.2.2.2.2.2.2.2.1 1).f3).toList = ([42] : List UInt8) then (if bt198.2.2.2.2.2.2.2.2.2.2.2 = 0 then (if bt198.2.2.2.2.2.2.2.2.1.toList = ([94] : List UInt8) then (if bt213.2.2.2.2.2.2.2.2.2.2.2 = 13 then (if bt213.2.2.2.2.2.2.2.2.2.2.1 = 2 then ((tree_Good.f k bt183.1 bt183.2.1 bt183.2.2.1 bt183.2.2.2.1 bt183.2.2.2.2.1 bt183.2.2.2.2.2.1 bt183.2.2.2.2.2.2.1 bt183.2.2.2.2.2.2.2.1 bt183.2.2.2.2.2.2.2.2.1 bt183.2.2.2.2.2.2.2.2.2.1).bind fun t229 => (if t229 = true then ((tree_Depth.f k bt183.1 bt183.2.1 bt183.2.2.1 bt183.2.2.2.1 bt183.2.2.2.2.1 bt183.2.2.2.2.2.1 bt183.2.2.2.2.2.2.1 bt183.2.2.2.2.2.2.2.1 bt183.2.2.2.2.2.2.2.2.1 bt183.2.2.2.2.2.2.2.2.2.1).bind fun t230 => (some (t230 == 3))) else (none))) else (none)) else (none)) else (none)) else (none)) else (none)) else (none)) else (none)) else (none)) else (none)) else (none)) else (none))))
theorem pannierlaw05_wakes.mono : ∀ k, LeO (pannierlaw05_wakes.f k ) (pannierlaw05_wakes.f (k + 1) ) := by
  intro  k
  unfold pannierlaw05_wakes.f
  repeat' first
      | (with_reducible exact tree_Depth.mono _ _ _ _ _ _ _ _ _ _ _)
      | (with_reducible exact tree_Good.mono _ _ _ _ _ _ _ _ _ _ _)
      | (with_reducible exact tree_Parse.mono _ _)
      | (with_reducible exact LeO.refl _)
      | (with_reducible exact LeO.none _)
      | (with_reducible refine LeO.ite ?_ ?_)
      | (with_reducible refine LeO.bind ?_ (fun _ => ?_))
      | exact tree_Depth.mono _ _ _ _ _ _ _ _ _ _ _
      | exact tree_Good.mono _ _ _ _ _ _ _ _ _ _ _
      | exact tree_Parse.mono _ _
      | exact LeO.none _
      | refine LeO.ite ?_ ?_
      | refine LeO.bind ?_ (fun _ => ?_)
set_option maxHeartbeats 8000000 in
set_option maxRecDepth 100000 in
theorem pannierlaw05_wakes.calls (k : Nat)  (r : Bool) (w : World) (hG : G4 w) (h : pannierlaw05_wakes.f k  = some r) :
    Calls Tryz.prog 13 #[] w fun e w' => e = .returned (.bool r) ∧ Below w.heap.size w w' := by
  have hu31 := Tryz.underlying31
  have HB := Aside0.mk (Below.refl w.heap.size w)
  have H : ((tree_Parse.f k (⟨#[49, 43, 50, 42, 51]⟩ : ByteArray)).bind fun bt183 => ((tree_Parse.f k (⟨#[45, 50, 94, 50]⟩ : ByteArray)).bind fun bt198 => ((tree_Parse.f k (⟨#[49, 43]⟩ : ByteArray)).bind fun bt213 => (if bt183.2.2.2.2.2.2.2.2.2.2.2 = 0 then (if bt183.2.2.2.2.2.2.2.2.2.2.1 = 0 then (if bt183.1 = 5 then (if bt183.2.2.2.2.2.2.2.2.1.toList = ([43] : List UInt8) then (if (bt183.2.2.2.2.2.2.2.2.2.1.length : Int) = 2 then (if 1 < (bt183.2.2.2.2.2.2.2.2.2.1.length : Int) then (if ((rd_T31 bt183.2.2.2.2.2.2.2.2.2.1 1).f3).toList = ([42] : List UInt8) then (if bt198.2.2.2.2.2.2.2.2.2.2.2 = 0 then (if bt198.2.2.2.2.2.2.2.2.1.toList = ([94] : List UInt8) then (if bt213.2.2.2.2.2.2.2.2.2.2.2 = 13 then (if bt213.2.2.2.2.2.2.2.2.2.2.1 = 2 then ((tree_Good.f k bt183.1 bt183.2.1 bt183.2.2.1 bt183.2.2.2.1 bt183.2.2.2.2.1 bt183.2.2.2.2.2.1 bt183.2.2.2.2.2.2.1 bt183.2.2.2.2.2.2.2.1 bt183.2.2.2.2.2.2.2.2.1 bt183.2.2.2.2.2.2.2.2.2.1).bind fun t229 => (if t229 = true then ((tree_Depth.f k bt183.1 bt183.2.1 bt183.2.2.1 bt183.2.2.2.1 bt183.2.2.2.2.1 bt183.2.2.2.2.2.1 bt183.2.2.2.2.2.2.1 bt183.2.2.2.2.2.2.2.1 bt183.2.2.2.2.2.2.2.2.1 bt183.2.2.2.2.2.2.2.2.2.1).bind fun t230 => (some (t230 == 3))) else (none))) else (none)) else (none)) else (none)) else (none)) else (none)) else (none)) else (none)) else (none)) else (none)) else (none)) else (none))))) = some r := h
  clear h
  replace H := Option.bind_eq_some_iff.mp H
  obtain ⟨⟨t183, t184, t185, t186, t187, t188, t189, t190, t191, t192, t195, t196⟩, A10, H⟩ := H
  replace H : ((tree_Parse.f k (⟨#[45, 50, 94, 50]⟩ : ByteArray)).bind fun bt198 => ((tree_Parse.f k (⟨#[49, 43]⟩ : ByteArray)).bind fun bt213 => (if t196 = 0 then (if t195 = 0 then (if t183 = 5 then (if t191.toList = ([43] : List UInt8) then (if (t192.length : Int) = 2 then (if 1 < (t192.length : Int) then (if ((rd_T31 t192 1).f3).toList = ([42] : List UInt8) then (if bt198.2.2.2.2.2.2.2.2.2.2.2 = 0 then (if bt198.2.2.2.2.2.2.2.2.1.toList = ([94] : List UInt8) then (if bt213.2.2.2.2.2.2.2.2.2.2.2 = 13 then (if bt213.2.2.2.2.2.2.2.2.2.2.1 = 2 then ((tree_Good.f k t183 t184 t185 t186 t187 t188 t189 t190 t191 t192).bind fun t229 => (if t229 = true then ((tree_Depth.f k t183 t184 t185 t186 t187 t188 t189 t190 t191 t192).bind fun t230 => (some (t230 == 3))) else (none))) else (none)) else (none)) else (none)) else (none)) else (none)) else (none)) else (none)) else (none)) else (none)) else (none)) else (none)))) = some r := H
  have A1 := Aside0.mk A10
  clear A10
  replace H := Option.bind_eq_some_iff.mp H
  obtain ⟨⟨t198, t199, t200, t201, t202, t203, t204, t205, t206, t207, t210, t211⟩, A20, H⟩ := H
  replace H : ((tree_Parse.f k (⟨#[49, 43]⟩ : ByteArray)).bind fun bt213 => (if t196 = 0 then (if t195 = 0 then (if t183 = 5 then (if t191.toList = ([43] : List UInt8) then (if (t192.length : Int) = 2 then (if 1 < (t192.length : Int) then (if ((rd_T31 t192 1).f3).toList = ([42] : List UInt8) then (if t211 = 0 then (if t206.toList = ([94] : List UInt8) then (if bt213.2.2.2.2.2.2.2.2.2.2.2 = 13 then (if bt213.2.2.2.2.2.2.2.2.2.2.1 = 2 then ((tree_Good.f k t183 t184 t185 t186 t187 t188 t189 t190 t191 t192).bind fun t229 => (if t229 = true then ((tree_Depth.f k t183 t184 t185 t186 t187 t188 t189 t190 t191 t192).bind fun t230 => (some (t230 == 3))) else (none))) else (none)) else (none)) else (none)) else (none)) else (none)) else (none)) else (none)) else (none)) else (none)) else (none)) else (none))) = some r := H
  have A2 := Aside0.mk A20
  clear A20
  replace H := Option.bind_eq_some_iff.mp H
  obtain ⟨⟨t213, t214, t215, t216, t217, t218, t219, t220, t221, t222, t225, t226⟩, A30, H⟩ := H
  replace H : (if t196 = 0 then (if t195 = 0 then (if t183 = 5 then (if t191.toList = ([43] : List UInt8) then (if (t192.length : Int) = 2 then (if 1 < (t192.length : Int) then (if ((rd_T31 t192 1).f3).toList = ([42] : List UInt8) then (if t211 = 0 then (if t206.toList = ([94] : List UInt8) then (if t226 = 13 then (if t225 = 2 then ((tree_Good.f k t183 t184 t185 t186 t187 t188 t189 t190 t191 t192).bind fun t229 => (if t229 = true then ((tree_Depth.f k t183 t184 t185 t186 t187 t188 t189 t190 t191 t192).bind fun t230 => (some (t230 == 3))) else (none))) else (none)) else (none)) else (none)) else (none)) else (none)) else (none)) else (none)) else (none)) else (none)) else (none)) else (none)) = some r := H
  have A3 := Aside0.mk A30
  clear A30
  by_cases c4 : t196 = 0
  · rw [if_pos c4] at H
    have c4b0 : (t196 == 0) = true := beq_iff_eq.mpr c4
    have c4b1 : (t196 != 0) = false := bne_eq_false_iff_eq.mpr c4
    clear c4
    by_cases c5 : t195 = 0
    · rw [if_pos c5] at H
      have c5b0 : (t195 == 0) = true := beq_iff_eq.mpr c5
      have c5b1 : (t195 != 0) = false := bne_eq_false_iff_eq.mpr c5
      clear c5
      by_cases c6 : t183 = 5
      · rw [if_pos c6] at H
        have c6b0 : (t183 == 5) = true := beq_iff_eq.mpr c6
        have c6b1 : (t183 != 5) = false := bne_eq_false_iff_eq.mpr c6
        clear c6
        by_cases c7 : t191.toList = ([43] : List UInt8)
        · rw [if_pos c7] at H
          have c7b0 : (t191.toList == ([43] : List UInt8)) = true := beq_iff_eq.mpr c7
          have c7b1 : (t191.toList != ([43] : List UInt8)) = false := bne_eq_false_iff_eq.mpr c7
          clear c7
          by_cases c8 : (t192.length : Int) = 2
          · rw [if_pos c8] at H
            have c8b0 : ((t192.length : Int) == 2) = true := beq_iff_eq.mpr c8
            have c8b1 : ((t192.length : Int) != 2) = false := bne_eq_false_iff_eq.mpr c8
            clear c8
            by_cases c9 : 1 < (t192.length : Int)
            · rw [if_pos c9] at H
              have c9b0 : decide (1 < (t192.length : Int)) = true := decide_eq_true c9
              have c9b1 : decide (1 < t192.length) = true := decide_eq_true (by omega)
              clear c9
              by_cases c10 : ((rd_T31 t192 1).f3).toList = ([42] : List UInt8)
              · rw [if_pos c10] at H
                have c10b0 : (((rd_T31 t192 1).f3).toList == ([42] : List UInt8)) = true := beq_iff_eq.mpr c10
                have c10b1 : (((rd_T31 t192 1).f3).toList != ([42] : List UInt8)) = false := bne_eq_false_iff_eq.mpr c10
                clear c10
                by_cases c11 : t211 = 0
                · rw [if_pos c11] at H
                  have c11b0 : (t211 == 0) = true := beq_iff_eq.mpr c11
                  have c11b1 : (t211 != 0) = false := bne_eq_false_iff_eq.mpr c11
                  clear c11
                  by_cases c12 : t206.toList = ([94] : List UInt8)
                  · rw [if_pos c12] at H
                    have c12b0 : (t206.toList == ([94] : List UInt8)) = true := beq_iff_eq.mpr c12
                    have c12b1 : (t206.toList != ([94] : List UInt8)) = false := bne_eq_false_iff_eq.mpr c12
                    clear c12
                    by_cases c13 : t226 = 13
                    · rw [if_pos c13] at H
                      have c13b0 : (t226 == 13) = true := beq_iff_eq.mpr c13
                      have c13b1 : (t226 != 13) = false := bne_eq_false_iff_eq.mpr c13
                      clear c13
                      by_cases c14 : t225 = 2
                      · rw [if_pos c14] at H
                        have c14b0 : (t225 == 2) = true := beq_iff_eq.mpr c14
                        have c14b1 : (t225 != 2) = false := bne_eq_false_iff_eq.mpr c14
                        clear c14
                        replace H := Option.bind_eq_some_iff.mp H
                        obtain ⟨t229, A150, H⟩ := H
                        replace H : (if t229 = true then ((tree_Depth.f k t183 t184 t185 t186 t187 t188 t189 t190 t191 t192).bind fun t230 => (some (t230 == 3))) else (none)) = some r := H
                        have A15 := Aside0.mk A150
                        clear A150
                        by_cases c16 : t229 = true
                        · subst c16
                          have H1 : ((tree_Depth.f k t183 t184 t185 t186 t187 t188 t189 t190 t191 t192).bind fun t230 => (some (t230 == 3))) = some r := by rw [if_pos rfl] at H; exact H
                          clear H
                          have H := H1
                          clear H1
                          replace H := Option.bind_eq_some_iff.mp H
                          obtain ⟨t230, A170, H⟩ := H
                          replace H : (some (t230 == 3)) = some r := H
                          have A17 := Aside0.mk A170
                          clear A170
                          obtain rfl := Option.some.inj H
                          go_enter Tryz.func13, Tryz.ntmps13
                          go_wp2_with (first | ((with_reducible refine gate_callee (f := 14) rfl ?_); refine goesL_ (some 11) rfl rfl Tryz.func14 (by kernel_rfl) rfl #[.string (⟨#[49, 43, 50, 42, 51]⟩ : ByteArray)] rfl (by (try simp only [List.map_toArray, List.map_cons, List.map_nil]); first | done | rfl | (simp only [List.length_drop, List.length_take]; rfl)) ?_; (with_reducible refine (tree_Parse.calls k (⟨#[49, 43, 50, 42, 51]⟩ : ByteArray) t183 t184 t185 t186 t187 t188 t189 t190 t191 t192 t195 t196 _ ?side1 A1.out).mono ?_); (case side1 => exact gl_4_4 (by repeat first | with_reducible exact HB.out | apply zS | exact HB.out) hG); rintro e w18 ⟨v193, rfl, ho0, hb⟩; refine ⟨_, rfl, ?_⟩; have n0_ := Aside0.mk (Kd.V_lower (Kd.V_mono (ok' := fun k_ => True) ho0 (fun k_ hk_ => trivial)) (below_size (by repeat first | with_reducible exact HB.out | apply zS | exact HB.out))); have n1_ := Aside0.mk (below_step (by repeat first | with_reducible exact HB.out | apply zS | exact HB.out) hb); clear HB; have HO194 := n0_; have HB := n1_; clear n0_ n1_; (try clear hb); (try clear hb2); (try clear hk); (try clear hi); (try clear ho0)) | ((with_reducible refine gate_dst (N := 1) rfl ?_); (try (refine gate_guard (by rfl) ?_; dsimp only)); refine box_event ?hg (N := 1) ?hd (cs := #[.int .i64 0, .int .i64 0, .int .i64 0, .string (⟨#[]⟩ : ByteArray), .int .i64 0, .int .i64 0, .int .i64 0, .int .i64 0, .string (⟨#[]⟩ : ByteArray), .slice none 0 0]) (t := 31) ?hr ?_; (case hd => rfl); (case hg => rfl); (case hr => first | (go_simp; done) | (go_simp; rfl)); intro gb197 hg w19 hbox hb; have n0_ := Aside0.mk (Kd.V_below (Kd.V_elderB (by (with_reducible repeat (first | apply Kd.V_alloc | apply Kd.V_drewN | apply Kd.V_drew)); exact HO194.out) gb197 (Nat.le_of_eq hg.symm)) hb); have n1_ := Aside0.mk (below_step (by repeat first | with_reducible exact HB.out | apply zS | exact HB.out) hb); have n2_ := Aside0.mk (hbox); have n3_ := Aside0.mk ((by rw [hg]; exact (below_size (by repeat first | with_reducible exact HB.out | apply zS | exact HB.out)) : w.heap.size ≤ gb197)); have n4_ := n3_; clear HO194; clear HB; have HO194 := n0_; have HB := n1_; have BK197 := n2_; have GW197 := n3_; have GE197 := n4_; clear n0_ n1_ n2_ n3_ n4_; clear hb hbox hg; obtain ⟨hcz20_0, hcz20_1, hcz20_2, hcz20_3, hcz20_4, hcz20_5, hcz20_6, hcz20_7, hcz20_8, hcz20_9, hfz20_0, hfz20_1, hfz20_2, hfz20_3, hfz20_4, hfz20_5, hfz20_6, hfz20_7, hfz20_8, hfz20_9⟩ := zC10 BK197.out; obtain ⟨Ao21, co21, eo21⟩ := Kd.V_slice HO194.out; subst eo21) | ((with_reducible refine gate_callee (f := 14) rfl ?_); refine goesL_ (some 16) rfl rfl Tryz.func14 (by kernel_rfl) rfl #[.string (⟨#[45, 50, 94, 50]⟩ : ByteArray)] rfl (by (try simp only [List.map_toArray, List.map_cons, List.map_nil]); first | done | rfl | (simp only [List.length_drop, List.length_take]; rfl)) ?_; (with_reducible refine (tree_Parse.calls k (⟨#[45, 50, 94, 50]⟩ : ByteArray) t198 t199 t200 t201 t202 t203 t204 t205 t206 t207 t210 t211 _ ?side1 A2.out).mono ?_); (case side1 => exact gl_4_4 (by repeat first | with_reducible exact HB.out | apply zS | refine below_set ?_ GE197.out | exact HB.out) hG); rintro e w22 ⟨v208, rfl, ho0, hb⟩; refine ⟨_, rfl, ?_⟩; have n0_ := Aside0.mk (Kd.V_below (by (with_reducible repeat (first | apply Kd.V_alloc | apply Kd.V_drewN | apply Kd.V_drew)); exact (Kd.V_mono (Kd.V_far (p := ⟨gb197, 9, none⟩) (Kd.V_far (p := ⟨gb197, 8, none⟩) (Kd.V_far (p := ⟨gb197, 7, none⟩) (Kd.V_far (p := ⟨gb197, 6, none⟩) (Kd.V_far (p := ⟨gb197, 5, none⟩) (Kd.V_far (p := ⟨gb197, 4, none⟩) (Kd.V_far (p := ⟨gb197, 3, none⟩) (Kd.V_far (p := ⟨gb197, 2, none⟩) (Kd.V_far (p := ⟨gb197, 1, none⟩) (Kd.V_far (p := ⟨gb197, 0, none⟩) (Kd.V_mono HO194.out (fun k_ hk => (⟨hk, hk.2⟩ : _ ∧ k_ ≠ gb197))) (fun _ hk => hk.2) (.int .i64 t183)) (fun _ hk => hk.2) (.int .i64 t184)) (fun _ hk => hk.2) (.int .i64 t185)) (fun _ hk => hk.2) (.string t186)) (fun _ hk => hk.2) (.int .i64 t187)) (fun _ hk => hk.2) (.int .i64 t188)) (fun _ hk => hk.2) (.int .i64 t189)) (fun _ hk => hk.2) (.int .i64 t190)) (fun _ hk => hk.2) (.string t191)) (fun _ hk => hk.2) (.slice Ao21 t192.length co21)) (fun _ h_ => h_.1))) hb); have n1_ := Aside0.mk (Kd.V_lower (Kd.V_mono (ok' := fun k_ => k_ ≠ gb197) ho0 (fun k_ hk_ => (Kd.freshB (g := gb197) (o := .cells #[.int .i64 t183, .int .i64 t184, .int .i64 t185, .string t186, .int .i64 t187, .int .i64 t188, .int .i64 t189, .int .i64 t190, .string t191, .slice Ao21 t192.length co21] 31 (0, 0)) (by refine zB ?_; refine blk_put (cs := #[.int .i64 t183, .int .i64 t184, .int .i64 t185, .string t186, .int .i64 t187, .int .i64 t188, .int .i64 t189, .int .i64 t190, .string t191, .slice none 0 0]) ?_ 9 _ rfl; refine zB ?_; refine blk_put (cs := #[.int .i64 t183, .int .i64 t184, .int .i64 t185, .string t186, .int .i64 t187, .int .i64 t188, .int .i64 t189, .int .i64 t190, .string (⟨#[]⟩ : ByteArray), .slice none 0 0]) ?_ 8 _ rfl; refine zB ?_; refine blk_put (cs := #[.int .i64 t183, .int .i64 t184, .int .i64 t185, .string t186, .int .i64 t187, .int .i64 t188, .int .i64 t189, .int .i64 0, .string (⟨#[]⟩ : ByteArray), .slice none 0 0]) ?_ 7 _ rfl; refine zB ?_; refine blk_put (cs := #[.int .i64 t183, .int .i64 t184, .int .i64 t185, .string t186, .int .i64 t187, .int .i64 t188, .int .i64 0, .int .i64 0, .string (⟨#[]⟩ : ByteArray), .slice none 0 0]) ?_ 6 _ rfl; refine zB ?_; refine blk_put (cs := #[.int .i64 t183, .int .i64 t184, .int .i64 t185, .string t186, .int .i64 t187, .int .i64 0, .int .i64 0, .int .i64 0, .string (⟨#[]⟩ : ByteArray), .slice none 0 0]) ?_ 5 _ rfl; refine zB ?_; refine blk_put (cs := #[.int .i64 t183, .int .i64 t184, .int .i64 t185, .string t186, .int .i64 0, .int .i64 0, .int .i64 0, .int .i64 0, .string (⟨#[]⟩ : ByteArray), .slice none 0 0]) ?_ 4 _ rfl; refine zB ?_; refine blk_put (cs := #[.int .i64 t183, .int .i64 t184, .int .i64 t185, .string (⟨#[]⟩ : ByteArray), .int .i64 0, .int .i64 0, .int .i64 0, .int .i64 0, .string (⟨#[]⟩ : ByteArray), .slice none 0 0]) ?_ 3 _ rfl; refine zB ?_; refine blk_put (cs := #[.int .i64 t183, .int .i64 t184, .int .i64 0, .string (⟨#[]⟩ : ByteArray), .int .i64 0, .int .i64 0, .int .i64 0, .int .i64 0, .string (⟨#[]⟩ : ByteArray), .slice none 0 0]) ?_ 2 _ rfl; refine zB ?_; refine blk_put (cs := #[.int .i64 t183, .int .i64 0, .int .i64 0, .string (⟨#[]⟩ : ByteArray), .int .i64 0, .int .i64 0, .int .i64 0, .int .i64 0, .string (⟨#[]⟩ : ByteArray), .slice none 0 0]) ?_ 1 _ rfl; refine zB ?_; refine blk_put (cs := #[.int .i64 0, .int .i64 0, .int .i64 0, .string (⟨#[]⟩ : ByteArray), .int .i64 0, .int .i64 0, .int .i64 0, .int .i64 0, .string (⟨#[]⟩ : ByteArray), .slice none 0 0]) ?_ 0 _ rfl; refine zB ?_; exact BK197.out) k_ hk_))) (below_size (by repeat first | with_reducible exact HB.out | apply zS | refine below_set ?_ GE197.out | exact HB.out))); have n2_ := Aside0.mk (blk_below (g := gb197) (o := .cells #[.int .i64 t183, .int .i64 t184, .int .i64 t185, .string t186, .int .i64 t187, .int .i64 t188, .int .i64 t189, .int .i64 t190, .string t191, .slice Ao21 t192.length co21] 31 (0, 0)) (by refine zB ?_; refine blk_put (cs := #[.int .i64 t183, .int .i64 t184, .int .i64 t185, .string t186, .int .i64 t187, .int .i64 t188, .int .i64 t189, .int .i64 t190, .string t191, .slice none 0 0]) ?_ 9 _ rfl; refine zB ?_; refine blk_put (cs := #[.int .i64 t183, .int .i64 t184, .int .i64 t185, .string t186, .int .i64 t187, .int .i64 t188, .int .i64 t189, .int .i64 t190, .string (⟨#[]⟩ : ByteArray), .slice none 0 0]) ?_ 8 _ rfl; refine zB ?_; refine blk_put (cs := #[.int .i64 t183, .int .i64 t184, .int .i64 t185, .string t186, .int .i64 t187, .int .i64 t188, .int .i64 t189, .int .i64 0, .string (⟨#[]⟩ : ByteArray), .slice none 0 0]) ?_ 7 _ rfl; refine zB ?_; refine blk_put (cs := #[.int .i64 t183, .int .i64 t184, .int .i64 t185, .string t186, .int .i64 t187, .int .i64 t188, .int .i64 0, .int .i64 0, .string (⟨#[]⟩ : ByteArray), .slice none 0 0]) ?_ 6 _ rfl; refine zB ?_; refine blk_put (cs := #[.int .i64 t183, .int .i64 t184, .int .i64 t185, .string t186, .int .i64 t187, .int .i64 0, .int .i64 0, .int .i64 0, .string (⟨#[]⟩ : ByteArray), .slice none 0 0]) ?_ 5 _ rfl; refine zB ?_; refine blk_put (cs := #[.int .i64 t183, .int .i64 t184, .int .i64 t185, .string t186, .int .i64 0, .int .i64 0, .int .i64 0, .int .i64 0, .string (⟨#[]⟩ : ByteArray), .slice none 0 0]) ?_ 4 _ rfl; refine zB ?_; refine blk_put (cs := #[.int .i64 t183, .int .i64 t184, .int .i64 t185, .string (⟨#[]⟩ : ByteArray), .int .i64 0, .int .i64 0, .int .i64 0, .int .i64 0, .string (⟨#[]⟩ : ByteArray), .slice none 0 0]) ?_ 3 _ rfl; refine zB ?_; refine blk_put (cs := #[.int .i64 t183, .int .i64 t184, .int .i64 0, .string (⟨#[]⟩ : ByteArray), .int .i64 0, .int .i64 0, .int .i64 0, .int .i64 0, .string (⟨#[]⟩ : ByteArray), .slice none 0 0]) ?_ 2 _ rfl; refine zB ?_; refine blk_put (cs := #[.int .i64 t183, .int .i64 0, .int .i64 0, .string (⟨#[]⟩ : ByteArray), .int .i64 0, .int .i64 0, .int .i64 0, .int .i64 0, .string (⟨#[]⟩ : ByteArray), .slice none 0 0]) ?_ 1 _ rfl; refine zB ?_; refine blk_put (cs := #[.int .i64 0, .int .i64 0, .int .i64 0, .string (⟨#[]⟩ : ByteArray), .int .i64 0, .int .i64 0, .int .i64 0, .int .i64 0, .string (⟨#[]⟩ : ByteArray), .slice none 0 0]) ?_ 0 _ rfl; refine zB ?_; exact BK197.out) hb); have n3_ := Aside0.mk (below_step (by repeat first | with_reducible exact HB.out | apply zS | refine below_set ?_ GE197.out | exact HB.out) hb); clear HO194; clear BK197; clear HB; have HO194 := n0_; have HO209 := n1_; have BK197 := n2_; have HB := n3_; clear n0_ n1_ n2_ n3_; (try clear hb); (try clear hb2); (try clear hk); (try clear hi); (try clear ho0)) | ((with_reducible refine gate_dst (N := 4) rfl ?_); (try (refine gate_guard (by rfl) ?_; dsimp only)); refine box_event ?hg (N := 4) ?hd (cs := #[.int .i64 0, .int .i64 0, .int .i64 0, .string (⟨#[]⟩ : ByteArray), .int .i64 0, .int .i64 0, .int .i64 0, .int .i64 0, .string (⟨#[]⟩ : ByteArray), .slice none 0 0]) (t := 31) ?hr ?_; (case hd => rfl); (case hg => rfl); (case hr => first | (go_simp; done) | (go_simp; rfl)); intro gb212 hg w23 hbox hb; have n0_ := Aside0.mk (Kd.V_below (Kd.V_elderB (by (with_reducible repeat (first | apply Kd.V_alloc | apply Kd.V_drewN | apply Kd.V_drew)); exact HO194.out) gb212 (Nat.le_of_eq hg.symm)) hb); have n1_ := Aside0.mk (Kd.V_below (Kd.V_elderB (by (with_reducible repeat (first | apply Kd.V_alloc | apply Kd.V_drewN | apply Kd.V_drew)); exact HO209.out) gb212 (Nat.le_of_eq hg.symm)) hb); have n2_ := Aside0.mk (blk_below (g := gb197) (o := .cells #[.int .i64 t183, .int .i64 t184, .int .i64 t185, .string t186, .int .i64 t187, .int .i64 t188, .int .i64 t189, .int .i64 t190, .string t191, .slice Ao21 t192.length co21] 31 (0, 0)) (zB BK197.out) hb); have n3_ := Aside0.mk (below_step (by repeat first | with_reducible exact HB.out | apply zS | refine below_set ?_ GE197.out | exact HB.out) hb); have n4_ := Aside0.mk (hbox); have n5_ := Aside0.mk ((by rw [hg]; exact (below_size (by repeat first | with_reducible exact HB.out | apply zS | refine below_set ?_ GE197.out | exact HB.out)) : w.heap.size ≤ gb212)); have n6_ := n5_; have n7_ := Aside0.mk ((by rw [hg]; exact Nat.ne_of_lt (blk_lt (g := gb197) (o := .cells #[.int .i64 t183, .int .i64 t184, .int .i64 t185, .string t186, .int .i64 t187, .int .i64 t188, .int .i64 t189, .int .i64 t190, .string t191, .slice Ao21 t192.length co21] 31 (0, 0)) (zB BK197.out)) : gb197 ≠ gb212)); have n8_ := Aside0.mk ((by rw [hg]; exact Nat.ne_of_gt (blk_lt (g := gb197) (o := .cells #[.int .i64 t183, .int .i64 t184, .int .i64 t185, .string t186, .int .i64 t187, .int .i64 t188, .int .i64 t189, .int .i64 t190, .string t191, .slice Ao21 t192.length co21] 31 (0, 0)) (zB BK197.out)) : gb212 ≠ gb197)); clear HO194; clear HO209; clear BK197; clear HB; have HO194 := n0_; have HO209 := n1_; have BK197 := n2_; have HB := n3_; have BK212 := n4_; have GW212 := n5_; have GE212 := n6_; have NB197_212 := n7_; have NB212_197 := n8_; clear n0_ n1_ n2_ n3_ n4_ n5_ n6_ n7_ n8_; clear hb hbox hg; have hnb24 := NB212_197.out; have hnc24 := NB197_212.out; obtain ⟨hcz25_0, hcz25_1, hcz25_2, hcz25_3, hcz25_4, hcz25_5, hcz25_6, hcz25_7, hcz25_8, hcz25_9, hfz25_0, hfz25_1, hfz25_2, hfz25_3, hfz25_4, hfz25_5, hfz25_6, hfz25_7, hfz25_8, hfz25_9⟩ := zC10 BK212.out; obtain ⟨Ao26, co26, eo26⟩ := Kd.V_slice HO209.out; subst eo26) | ((with_reducible refine gate_callee (f := 14) rfl ?_); refine goesL_ (some 21) rfl rfl Tryz.func14 (by kernel_rfl) rfl #[.string (⟨#[49, 43]⟩ : ByteArray)] rfl (by (try simp only [List.map_toArray, List.map_cons, List.map_nil]); first | done | rfl | (simp only [List.length_drop, List.length_take]; rfl)) ?_; (with_reducible refine (tree_Parse.calls k (⟨#[49, 43]⟩ : ByteArray) t213 t214 t215 t216 t217 t218 t219 t220 t221 t222 t225 t226 _ ?side1 A3.out).mono ?_); (case side1 => exact gl_4_4 (by repeat first | with_reducible exact HB.out | apply zS | refine below_set ?_ GE197.out | refine below_set ?_ GE212.out | exact HB.out) hG); rintro e w27 ⟨v223, rfl, ho0, hb⟩; refine ⟨_, rfl, ?_⟩; have n0_ := Aside0.mk (Kd.V_below (by (with_reducible repeat (first | apply Kd.V_alloc | apply Kd.V_drewN | apply Kd.V_drew)); exact (Kd.V_mono (Kd.V_far (p := ⟨gb212, 9, none⟩) (Kd.V_far (p := ⟨gb212, 8, none⟩) (Kd.V_far (p := ⟨gb212, 7, none⟩) (Kd.V_far (p := ⟨gb212, 6, none⟩) (Kd.V_far (p := ⟨gb212, 5, none⟩) (Kd.V_far (p := ⟨gb212, 4, none⟩) (Kd.V_far (p := ⟨gb212, 3, none⟩) (Kd.V_far (p := ⟨gb212, 2, none⟩) (Kd.V_far (p := ⟨gb212, 1, none⟩) (Kd.V_far (p := ⟨gb212, 0, none⟩) (Kd.V_mono HO194.out (fun k_ hk => (⟨hk, hk.2⟩ : _ ∧ k_ ≠ gb212))) (fun _ hk => hk.2) (.int .i64 t198)) (fun _ hk => hk.2) (.int .i64 t199)) (fun _ hk => hk.2) (.int .i64 t200)) (fun _ hk => hk.2) (.string t201)) (fun _ hk => hk.2) (.int .i64 t202)) (fun _ hk => hk.2) (.int .i64 t203)) (fun _ hk => hk.2) (.int .i64 t204)) (fun _ hk => hk.2) (.int .i64 t205)) (fun _ hk => hk.2) (.string t206)) (fun _ hk => hk.2) (.slice Ao26 t207.length co26)) (fun _ h_ => h_.1))) hb); have n1_ := Aside0.mk (Kd.V_below (by (with_reducible repeat (first | apply Kd.V_alloc | apply Kd.V_drewN | apply Kd.V_drew)); exact (Kd.V_mono (Kd.V_far (p := ⟨gb212, 9, none⟩) (Kd.V_far (p := ⟨gb212, 8, none⟩) (Kd.V_far (p := ⟨gb212, 7, none⟩) (Kd.V_far (p := ⟨gb212, 6, none⟩) (Kd.V_far (p := ⟨gb212, 5, none⟩) (Kd.V_far (p := ⟨gb212, 4, none⟩) (Kd.V_far (p := ⟨gb212, 3, none⟩) (Kd.V_far (p := ⟨gb212, 2, none⟩) (Kd.V_far (p := ⟨gb212, 1, none⟩) (Kd.V_far (p := ⟨gb212, 0, none⟩) (Kd.V_mono HO209.out (fun k_ hk => (⟨hk, hk.2⟩ : _ ∧ k_ ≠ gb212))) (fun _ hk => hk.2) (.int .i64 t198)) (fun _ hk => hk.2) (.int .i64 t199)) (fun _ hk => hk.2) (.int .i64 t200)) (fun _ hk => hk.2) (.string t201)) (fun _ hk => hk.2) (.int .i64 t202)) (fun _ hk => hk.2) (.int .i64 t203)) (fun _ hk => hk.2) (.int .i64 t204)) (fun _ hk => hk.2) (.int .i64 t205)) (fun _ hk => hk.2) (.string t206)) (fun _ hk => hk.2) (.slice Ao26 t207.length co26)) (fun _ h_ => h_.1))) hb); have n2_ := Aside0.mk (Kd.V_lower (Kd.V_mono (ok' := fun k_ => k_ ≠ gb197 ∧ k_ ≠ gb212) ho0 (fun k_ hk_ => ⟨(Kd.freshB (g := gb197) (o := .cells #[.int .i64 t183, .int .i64 t184, .int .i64 t185, .string t186, .int .i64 t187, .int .i64 t188, .int .i64 t189, .int .i64 t190, .string t191, .slice Ao21 t192.length co21] 31 (0, 0)) (by refine zB (blk_far ?_ NB197_212.out _); refine zB ?_; refine blk_far ?_ NB197_212.out _; refine zB (blk_far ?_ NB197_212.out _); refine zB ?_; refine blk_far ?_ NB197_212.out _; refine zB (blk_far ?_ NB197_212.out _); refine zB ?_; refine blk_far ?_ NB197_212.out _; refine zB (blk_far ?_ NB197_212.out _); refine zB ?_; refine blk_far ?_ NB197_212.out _; refine zB (blk_far ?_ NB197_212.out _); refine zB (blk_far ?_ NB197_212.out _); refine zB ?_; exact BK197.out) k_ hk_), (Kd.freshB (g := gb212) (o := .cells #[.int .i64 t198, .int .i64 t199, .int .i64 t200, .string t201, .int .i64 t202, .int .i64 t203, .int .i64 t204, .int .i64 t205, .string t206, .slice Ao26 t207.length co26] 31 (0, 0)) (by refine zB ?_; refine blk_put (cs := #[.int .i64 t198, .int .i64 t199, .int .i64 t200, .string t201, .int .i64 t202, .int .i64 t203, .int .i64 t204, .int .i64 t205, .string t206, .slice none 0 0]) ?_ 9 _ rfl; refine zB ?_; refine blk_put (cs := #[.int .i64 t198, .int .i64 t199, .int .i64 t200, .string t201, .int .i64 t202, .int .i64 t203, .int .i64 t204, .int .i64 t205, .string (⟨#[]⟩ : ByteArray), .slice none 0 0]) ?_ 8 _ rfl; refine zB ?_; refine blk_put (cs := #[.int .i64 t198, .int .i64 t199, .int .i64 t200, .string t201, .int .i64 t202, .int .i64 t203, .int .i64 t204, .int .i64 0, .string (⟨#[]⟩ : ByteArray), .slice none 0 0]) ?_ 7 _ rfl; refine zB ?_; refine blk_put (cs := #[.int .i64 t198, .int .i64 t199, .int .i64 t200, .string t201, .int .i64 t202, .int .i64 t203, .int .i64 0, .int .i64 0, .string (⟨#[]⟩ : ByteArray), .slice none 0 0]) ?_ 6 _ rfl; refine zB ?_; refine blk_put (cs := #[.int .i64 t198, .int .i64 t199, .int .i64 t200, .string t201, .int .i64 t202, .int .i64 0, .int .i64 0, .int .i64 0, .string (⟨#[]⟩ : ByteArray), .slice none 0 0]) ?_ 5 _ rfl; refine zB ?_; refine blk_put (cs := #[.int .i64 t198, .int .i64 t199, .int .i64 t200, .string t201, .int .i64 0, .int .i64 0, .int .i64 0, .int .i64 0, .string (⟨#[]⟩ : ByteArray), .slice none 0 0]) ?_ 4 _ rfl; refine zB ?_; refine blk_put (cs := #[.int .i64 t198, .int .i64 t199, .int .i64 t200, .string (⟨#[]⟩ : ByteArray), .int .i64 0, .int .i64 0, .int .i64 0, .int .i64 0, .string (⟨#[]⟩ : ByteArray), .slice none 0 0]) ?_ 3 _ rfl; refine zB ?_; refine blk_put (cs := #[.int .i64 t198, .int .i64 t199, .int .i64 0, .string (⟨#[]⟩ : ByteArray), .int .i64 0, .int .i64 0, .int .i64 0, .int .i64 0, .string (⟨#[]⟩ : ByteArray), .slice none 0 0]) ?_ 2 _ rfl; refine zB ?_; refine blk_put (cs := #[.int .i64 t198, .int .i64 0, .int .i64 0, .string (⟨#[]⟩ : ByteArray), .int .i64 0, .int .i64 0, .int .i64 0, .int .i64 0, .string (⟨#[]⟩ : ByteArray), .slice none 0 0]) ?_ 1 _ rfl; refine zB ?_; refine blk_put (cs := #[.int .i64 0, .int .i64 0, .int .i64 0, .string (⟨#[]⟩ : ByteArray), .int .i64 0, .int .i64 0, .int .i64 0, .int .i64 0, .string (⟨#[]⟩ : ByteArray), .slice none 0 0]) ?_ 0 _ rfl; refine zB ?_; exact BK212.out) k_ hk_)⟩)) (below_size (by repeat first | with_reducible exact HB.out | apply zS | refine below_set ?_ GE197.out | refine below_set ?_ GE212.out | exact HB.out))); have n3_ := Aside0.mk (blk_below (g := gb197) (o := .cells #[.int .i64 t183, .int .i64 t184, .int .i64 t185, .string t186, .int .i64 t187, .int .i64 t188, .int .i64 t189, .int .i64 t190, .string t191, .slice Ao21 t192.length co21] 31 (0, 0)) (by refine zB (blk_far ?_ NB197_212.out _); refine zB ?_; refine blk_far ?_ NB197_212.out _; refine zB (blk_far ?_ NB197_212.out _); refine zB ?_; refine blk_far ?_ NB197_212.out _; refine zB (blk_far ?_ NB197_212.out _); refine zB ?_; refine blk_far ?_ NB197_212.out _; refine zB (blk_far ?_ NB197_212.out _); refine zB ?_; refine blk_far ?_ NB197_212.out _; refine zB (blk_far ?_ NB197_212.out _); refine zB (blk_far ?_ NB197_212.out _); refine zB ?_; exact BK197.out) hb); have n4_ := Aside0.mk (blk_below (g := gb212) (o := .cells #[.int .i64 t198, .int .i64 t199, .int .i64 t200, .string t201, .int .i64 t202, .int .i64 t203, .int .i64 t204, .int .i64 t205, .string t206, .slice Ao26 t207.length co26] 31 (0, 0)) (by refine zB ?_; refine blk_put (cs := #[.int .i64 t198, .int .i64 t199, .int .i64 t200, .string t201, .int .i64 t202, .int .i64 t203, .int .i64 t204, .int .i64 t205, .string t206, .slice none 0 0]) ?_ 9 _ rfl; refine zB ?_; refine blk_put (cs := #[.int .i64 t198, .int .i64 t199, .int .i64 t200, .string t201, .int .i64 t202, .int .i64 t203, .int .i64 t204, .int .i64 t205, .string (⟨#[]⟩ : ByteArray), .slice none 0 0]) ?_ 8 _ rfl; refine zB ?_; refine blk_put (cs := #[.int .i64 t198, .int .i64 t199, .int .i64 t200, .string t201, .int .i64 t202, .int .i64 t203, .int .i64 t204, .int .i64 0, .string (⟨#[]⟩ : ByteArray), .slice none 0 0]) ?_ 7 _ rfl; refine zB ?_; refine blk_put (cs := #[.int .i64 t198, .int .i64 t199, .int .i64 t200, .string t201, .int .i64 t202, .int .i64 t203, .int .i64 0, .int .i64 0, .string (⟨#[]⟩ : ByteArray), .slice none 0 0]) ?_ 6 _ rfl; refine zB ?_; refine blk_put (cs := #[.int .i64 t198, .int .i64 t199, .int .i64 t200, .string t201, .int .i64 t202, .int .i64 0, .int .i64 0, .int .i64 0, .string (⟨#[]⟩ : ByteArray), .slice none 0 0]) ?_ 5 _ rfl; refine zB ?_; refine blk_put (cs := #[.int .i64 t198, .int .i64 t199, .int .i64 t200, .string t201, .int .i64 0, .int .i64 0, .int .i64 0, .int .i64 0, .string (⟨#[]⟩ : ByteArray), .slice none 0 0]) ?_ 4 _ rfl; refine zB ?_; refine blk_put (cs := #[.int .i64 t198, .int .i64 t199, .int .i64 t200, .string (⟨#[]⟩ : ByteArray), .int .i64 0, .int .i64 0, .int .i64 0, .int .i64 0, .string (⟨#[]⟩ : ByteArray), .slice none 0 0]) ?_ 3 _ rfl; refine zB ?_; refine blk_put (cs := #[.int .i64 t198, .int .i64 t199, .int .i64 0, .string (⟨#[]⟩ : ByteArray), .int .i64 0, .int .i64 0, .int .i64 0, .int .i64 0, .string (⟨#[]⟩ : ByteArray), .slice none 0 0]) ?_ 2 _ rfl; refine zB ?_; refine blk_put (cs := #[.int .i64 t198, .int .i64 0, .int .i64 0, .string (⟨#[]⟩ : ByteArray), .int .i64 0, .int .i64 0, .int .i64 0, .int .i64 0, .string (⟨#[]⟩ : ByteArray), .slice none 0 0]) ?_ 1 _ rfl; refine zB ?_; refine blk_put (cs := #[.int .i64 0, .int .i64 0, .int .i64 0, .string (⟨#[]⟩ : ByteArray), .int .i64 0, .int .i64 0, .int .i64 0, .int .i64 0, .string (⟨#[]⟩ : ByteArray), .slice none 0 0]) ?_ 0 _ rfl; refine zB ?_; exact BK212.out) hb); have n5_ := Aside0.mk (below_step (by repeat first | with_reducible exact HB.out | apply zS | refine below_set ?_ GE197.out | refine below_set ?_ GE212.out | exact HB.out) hb); clear HO194; clear HO209; clear BK197; clear BK212; clear HB; have HO194 := n0_; have HO209 := n1_; have HO224 := n2_; have BK197 := n3_; have BK212 := n4_; have HB := n5_; clear n0_ n1_ n2_ n3_ n4_ n5_; (try clear hb); (try clear hb2); (try clear hk); (try clear hi); (try clear ho0)) | ((with_reducible refine gate_dst (N := 7) rfl ?_); (try (refine gate_guard (by rfl) ?_; dsimp only)); refine box_event ?hg (N := 7) ?hd (cs := #[.int .i64 0, .int .i64 0, .int .i64 0, .string (⟨#[]⟩ : ByteArray), .int .i64 0, .int .i64 0, .int .i64 0, .int .i64 0, .string (⟨#[]⟩ : ByteArray), .slice none 0 0]) (t := 31) ?hr ?_; (case hd => rfl); (case hg => rfl); (case hr => first | (go_simp; done) | (go_simp; rfl)); intro gb227 hg w28 hbox hb; have n0_ := Aside0.mk (Kd.V_below (Kd.V_elderB (by (with_reducible repeat (first | apply Kd.V_alloc | apply Kd.V_drewN | apply Kd.V_drew)); exact HO194.out) gb227 (Nat.le_of_eq hg.symm)) hb); have n1_ := Aside0.mk (Kd.V_below (Kd.V_elderB (by (with_reducible repeat (first | apply Kd.V_alloc | apply Kd.V_drewN | apply Kd.V_drew)); exact HO209.out) gb227 (Nat.le_of_eq hg.symm)) hb); have n2_ := Aside0.mk (Kd.V_below (Kd.V_elderB (by (with_reducible repeat (first | apply Kd.V_alloc | apply Kd.V_drewN | apply Kd.V_drew)); exact HO224.out) gb227 (Nat.le_of_eq hg.symm)) hb); have n3_ := Aside0.mk (blk_below (g := gb197) (o := .cells #[.int .i64 t183, .int .i64 t184, .int .i64 t185, .string t186, .int .i64 t187, .int .i64 t188, .int .i64 t189, .int .i64 t190, .string t191, .slice Ao21 t192.length co21] 31 (0, 0)) (zB BK197.out) hb); have n4_ := Aside0.mk (blk_below (g := gb212) (o := .cells #[.int .i64 t198, .int .i64 t199, .int .i64 t200, .string t201, .int .i64 t202, .int .i64 t203, .int .i64 t204, .int .i64 t205, .string t206, .slice Ao26 t207.length co26] 31 (0, 0)) (zB BK212.out) hb); have n5_ := Aside0.mk (below_step (by repeat first | with_reducible exact HB.out | apply zS | refine below_set ?_ GE197.out | refine below_set ?_ GE212.out | exact HB.out) hb); have n6_ := Aside0.mk (hbox); have n7_ := Aside0.mk ((by rw [hg]; exact (below_size (by repeat first | with_reducible exact HB.out | apply zS | refine below_set ?_ GE197.out | refine below_set ?_ GE212.out | exact HB.out)) : w.heap.size ≤ gb227)); have n8_ := n7_; have n9_ := Aside0.mk ((by rw [hg]; exact Nat.ne_of_lt (blk_lt (g := gb197) (o := .cells #[.int .i64 t183, .int .i64 t184, .int .i64 t185, .string t186, .int .i64 t187, .int .i64 t188, .int .i64 t189, .int .i64 t190, .string t191, .slice Ao21 t192.length co21] 31 (0, 0)) (zB BK197.out)) : gb197 ≠ gb227)); have n10_ := Aside0.mk ((by rw [hg]; exact Nat.ne_of_gt (blk_lt (g := gb197) (o := .cells #[.int .i64 t183, .int .i64 t184, .int .i64 t185, .string t186, .int .i64 t187, .int .i64 t188, .int .i64 t189, .int .i64 t190, .string t191, .slice Ao21 t192.length co21] 31 (0, 0)) (zB BK197.out)) : gb227 ≠ gb197)); have n11_ := Aside0.mk ((by rw [hg]; exact Nat.ne_of_lt (blk_lt (g := gb212) (o := .cells #[.int .i64 t198, .int .i64 t199, .int .i64 t200, .string t201, .int .i64 t202, .int .i64 t203, .int .i64 t204, .int .i64 t205, .string t206, .slice Ao26 t207.length co26] 31 (0, 0)) (zB BK212.out)) : gb212 ≠ gb227)); have n12_ := Aside0.mk ((by rw [hg]; exact Nat.ne_of_gt (blk_lt (g := gb212) (o := .cells #[.int .i64 t198, .int .i64 t199, .int .i64 t200, .string t201, .int .i64 t202, .int .i64 t203, .int .i64 t204, .int .i64 t205, .string t206, .slice Ao26 t207.length co26] 31 (0, 0)) (zB BK212.out)) : gb227 ≠ gb212)); clear HO194; clear HO209; clear HO224; clear BK197; clear BK212; clear HB; have HO194 := n0_; have HO209 := n1_; have HO224 := n2_; have BK197 := n3_; have BK212 := n4_; have HB := n5_; have BK227 := n6_; have GW227 := n7_; have GE227 := n8_; have NB197_227 := n9_; have NB227_197 := n10_; have NB212_227 := n11_; have NB227_212 := n12_; clear n0_ n1_ n2_ n3_ n4_ n5_ n6_ n7_ n8_ n9_ n10_ n11_ n12_; clear hb hbox hg; have hnb29 := NB227_197.out; have hnc29 := NB197_227.out; have hnb30 := NB227_212.out; have hnc30 := NB212_227.out; obtain ⟨hcz31_0, hcz31_1, hcz31_2, hcz31_3, hcz31_4, hcz31_5, hcz31_6, hcz31_7, hcz31_8, hcz31_9, hfz31_0, hfz31_1, hfz31_2, hfz31_3, hfz31_4, hfz31_5, hfz31_6, hfz31_7, hfz31_8, hfz31_9⟩ := zC10 BK227.out; obtain ⟨Ao32, co32, eo32⟩ := Kd.V_slice HO224.out; subst eo32) | ((with_reducible refine gate_store (t := 31) (p := 7) rfl ?_); refine store_event (t := 31) (p := 7) (v := ?vo_w33) (w1 := ((((((((((w28.setCell ⟨gb227, 0, none⟩ (.int .i64 t213)).setCell ⟨gb227, 1, none⟩ (.int .i64 t214)).setCell ⟨gb227, 2, none⟩ (.int .i64 t215)).setCell ⟨gb227, 3, none⟩ (.string t216)).setCell ⟨gb227, 4, none⟩ (.int .i64 t217)).setCell ⟨gb227, 5, none⟩ (.int .i64 t218)).setCell ⟨gb227, 6, none⟩ (.int .i64 t219)).setCell ⟨gb227, 7, none⟩ (.int .i64 t220)).setCell ⟨gb227, 8, none⟩ (.string t221)).setCell ⟨gb227, 9, none⟩ (.slice Ao32 t222.length co32))) ?hg ?ho ?hn ?hr ?_; (case ho => rfl); (case hg => rfl); (case hn => rfl); (case hr => first | (go_simp; done) | (go_simp; rfl)); intro w33 hw; have n0_ : Aside0 (Kd.V k31 31 w33 w.heap.size (fun k_ => k_ ≠ gb197 ∧ k_ ≠ gb212 ∧ k_ ≠ gb227) (.slice Ao21 t192.length co21) t192) := ⟨(by rw [hw]; exact (by (with_reducible repeat (first | apply Kd.V_alloc | apply Kd.V_drewN | apply Kd.V_drew)); exact Kd.V_mono (Kd.V_far (p := ⟨gb227, 9, none⟩) (Kd.V_far (p := ⟨gb227, 8, none⟩) (Kd.V_far (p := ⟨gb227, 7, none⟩) (Kd.V_far (p := ⟨gb227, 6, none⟩) (Kd.V_far (p := ⟨gb227, 5, none⟩) (Kd.V_far (p := ⟨gb227, 4, none⟩) (Kd.V_far (p := ⟨gb227, 3, none⟩) (Kd.V_far (p := ⟨gb227, 2, none⟩) (Kd.V_far (p := ⟨gb227, 1, none⟩) (Kd.V_far (p := ⟨gb227, 0, none⟩) (Kd.V_mono HO194.out (fun k_ hk => (⟨hk, hk.2⟩ : _ ∧ k_ ≠ gb227))) (fun _ hk => hk.2) (.int .i64 t213)) (fun _ hk => hk.2) (.int .i64 t214)) (fun _ hk => hk.2) (.int .i64 t215)) (fun _ hk => hk.2) (.string t216)) (fun _ hk => hk.2) (.int .i64 t217)) (fun _ hk => hk.2) (.int .i64 t218)) (fun _ hk => hk.2) (.int .i64 t219)) (fun _ hk => hk.2) (.int .i64 t220)) (fun _ hk => hk.2) (.string t221)) (fun _ hk => hk.2) (.slice Ao32 t222.length co32)) (fun _ hk => ⟨hk.1.1.1.2, ⟨hk.1.1.2, hk.1.2⟩⟩)))⟩; have n1_ : Aside0 (Kd.V k31 31 w33 w.heap.size (fun k_ => k_ ≠ gb197 ∧ k_ ≠ gb212 ∧ k_ ≠ gb227) (.slice Ao26 t207.length co26) t207) := ⟨(by rw [hw]; exact (by (with_reducible repeat (first | apply Kd.V_alloc | apply Kd.V_drewN | apply Kd.V_drew)); exact Kd.V_mono (Kd.V_far (p := ⟨gb227, 9, none⟩) (Kd.V_far (p := ⟨gb227, 8, none⟩) (Kd.V_far (p := ⟨gb227, 7, none⟩) (Kd.V_far (p := ⟨gb227, 6, none⟩) (Kd.V_far (p := ⟨gb227, 5, none⟩) (Kd.V_far (p := ⟨gb227, 4, none⟩) (Kd.V_far (p := ⟨gb227, 3, none⟩) (Kd.V_far (p := ⟨gb227, 2, none⟩) (Kd.V_far (p := ⟨gb227, 1, none⟩) (Kd.V_far (p := ⟨gb227, 0, none⟩) (Kd.V_mono HO209.out (fun k_ hk => (⟨hk, hk.2⟩ : _ ∧ k_ ≠ gb227))) (fun _ hk => hk.2) (.int .i64 t213)) (fun _ hk => hk.2) (.int .i64 t214)) (fun _ hk => hk.2) (.int .i64 t215)) (fun _ hk => hk.2) (.string t216)) (fun _ hk => hk.2) (.int .i64 t217)) (fun _ hk => hk.2) (.int .i64 t218)) (fun _ hk => hk.2) (.int .i64 t219)) (fun _ hk => hk.2) (.int .i64 t220)) (fun _ hk => hk.2) (.string t221)) (fun _ hk => hk.2) (.slice Ao32 t222.length co32)) (fun _ hk => ⟨hk.1.1.1, ⟨hk.1.1.2, hk.1.2⟩⟩)))⟩; have n2_ : Aside0 (Kd.V k31 31 w33 w.heap.size (fun k_ => k_ ≠ gb197 ∧ k_ ≠ gb212 ∧ k_ ≠ gb227) (.slice Ao32 t222.length co32) t222) := ⟨(by rw [hw]; exact (by (with_reducible repeat (first | apply Kd.V_alloc | apply Kd.V_drewN | apply Kd.V_drew)); exact Kd.V_mono (Kd.V_far (p := ⟨gb227, 9, none⟩) (Kd.V_far (p := ⟨gb227, 8, none⟩) (Kd.V_far (p := ⟨gb227, 7, none⟩) (Kd.V_far (p := ⟨gb227, 6, none⟩) (Kd.V_far (p := ⟨gb227, 5, none⟩) (Kd.V_far (p := ⟨gb227, 4, none⟩) (Kd.V_far (p := ⟨gb227, 3, none⟩) (Kd.V_far (p := ⟨gb227, 2, none⟩) (Kd.V_far (p := ⟨gb227, 1, none⟩) (Kd.V_far (p := ⟨gb227, 0, none⟩) (Kd.V_mono HO224.out (fun k_ hk => (⟨hk, hk.2⟩ : _ ∧ k_ ≠ gb227))) (fun _ hk => hk.2) (.int .i64 t213)) (fun _ hk => hk.2) (.int .i64 t214)) (fun _ hk => hk.2) (.int .i64 t215)) (fun _ hk => hk.2) (.string t216)) (fun _ hk => hk.2) (.int .i64 t217)) (fun _ hk => hk.2) (.int .i64 t218)) (fun _ hk => hk.2) (.int .i64 t219)) (fun _ hk => hk.2) (.int .i64 t220)) (fun _ hk => hk.2) (.string t221)) (fun _ hk => hk.2) (.slice Ao32 t222.length co32)) (fun _ hk => ⟨hk.1.1.1, ⟨hk.1.1.2, hk.1.2⟩⟩)))⟩; have n3_ : Aside0 (w33.heap[gb197]? = some (.cells #[.int .i64 t183, .int .i64 t184, .int .i64 t185, .string t186, .int .i64 t187, .int .i64 t188, .int .i64 t189, .int .i64 t190, .string t191, .slice Ao21 t192.length co21] 31 (0, 0))) := ⟨(by rw [hw]; exact (by refine zB (blk_far ?_ NB197_227.out _); refine zB ?_; refine blk_far ?_ NB197_227.out _; refine zB (blk_far ?_ NB197_227.out _); refine zB ?_; refine blk_far ?_ NB197_227.out _; refine zB (blk_far ?_ NB197_227.out _); refine zB ?_; refine blk_far ?_ NB197_227.out _; refine zB (blk_far ?_ NB197_227.out _); refine zB ?_; refine blk_far ?_ NB197_227.out _; refine zB (blk_far ?_ NB197_227.out _); refine zB (blk_far ?_ NB197_227.out _); refine zB ?_; exact BK197.out))⟩; have n4_ : Aside0 (w33.heap[gb212]? = some (.cells #[.int .i64 t198, .int .i64 t199, .int .i64 t200, .string t201, .int .i64 t202, .int .i64 t203, .int .i64 t204, .int .i64 t205, .string t206, .slice Ao26 t207.length co26] 31 (0, 0))) := ⟨(by rw [hw]; exact (by refine zB (blk_far ?_ NB212_227.out _); refine zB ?_; refine blk_far ?_ NB212_227.out _; refine zB (blk_far ?_ NB212_227.out _); refine zB ?_; refine blk_far ?_ NB212_227.out _; refine zB (blk_far ?_ NB212_227.out _); refine zB ?_; refine blk_far ?_ NB212_227.out _; refine zB (blk_far ?_ NB212_227.out _); refine zB ?_; refine blk_far ?_ NB212_227.out _; refine zB (blk_far ?_ NB212_227.out _); refine zB (blk_far ?_ NB212_227.out _); refine zB ?_; exact BK212.out))⟩; have n5_ : Aside0 (w33.heap[gb227]? = some (.cells #[.int .i64 t213, .int .i64 t214, .int .i64 t215, .string t216, .int .i64 t217, .int .i64 t218, .int .i64 t219, .int .i64 t220, .string t221, .slice Ao32 t222.length co32] 31 (0, 0))) := ⟨(by rw [hw]; exact (by refine zB ?_; refine blk_put (cs := #[.int .i64 t213, .int .i64 t214, .int .i64 t215, .string t216, .int .i64 t217, .int .i64 t218, .int .i64 t219, .int .i64 t220, .string t221, .slice none 0 0]) ?_ 9 _ rfl; refine zB ?_; refine blk_put (cs := #[.int .i64 t213, .int .i64 t214, .int .i64 t215, .string t216, .int .i64 t217, .int .i64 t218, .int .i64 t219, .int .i64 t220, .string (⟨#[]⟩ : ByteArray), .slice none 0 0]) ?_ 8 _ rfl; refine zB ?_; refine blk_put (cs := #[.int .i64 t213, .int .i64 t214, .int .i64 t215, .string t216, .int .i64 t217, .int .i64 t218, .int .i64 t219, .int .i64 0, .string (⟨#[]⟩ : ByteArray), .slice none 0 0]) ?_ 7 _ rfl; refine zB ?_; refine blk_put (cs := #[.int .i64 t213, .int .i64 t214, .int .i64 t215, .string t216, .int .i64 t217, .int .i64 t218, .int .i64 0, .int .i64 0, .string (⟨#[]⟩ : ByteArray), .slice none 0 0]) ?_ 6 _ rfl; refine zB ?_; refine blk_put (cs := #[.int .i64 t213, .int .i64 t214, .int .i64 t215, .string t216, .int .i64 t217, .int .i64 0, .int .i64 0, .int .i64 0, .string (⟨#[]⟩ : ByteArray), .slice none 0 0]) ?_ 5 _ rfl; refine zB ?_; refine blk_put (cs := #[.int .i64 t213, .int .i64 t214, .int .i64 t215, .string t216, .int .i64 0, .int .i64 0, .int .i64 0, .int .i64 0, .string (⟨#[]⟩ : ByteArray), .slice none 0 0]) ?_ 4 _ rfl; refine zB ?_; refine blk_put (cs := #[.int .i64 t213, .int .i64 t214, .int .i64 t215, .string (⟨#[]⟩ : ByteArray), .int .i64 0, .int .i64 0, .int .i64 0, .int .i64 0, .string (⟨#[]⟩ : ByteArray), .slice none 0 0]) ?_ 3 _ rfl; refine zB ?_; refine blk_put (cs := #[.int .i64 t213, .int .i64 t214, .int .i64 0, .string (⟨#[]⟩ : ByteArray), .int .i64 0, .int .i64 0, .int .i64 0, .int .i64 0, .string (⟨#[]⟩ : ByteArray), .slice none 0 0]) ?_ 2 _ rfl; refine zB ?_; refine blk_put (cs := #[.int .i64 t213, .int .i64 0, .int .i64 0, .string (⟨#[]⟩ : ByteArray), .int .i64 0, .int .i64 0, .int .i64 0, .int .i64 0, .string (⟨#[]⟩ : ByteArray), .slice none 0 0]) ?_ 1 _ rfl; refine zB ?_; refine blk_put (cs := #[.int .i64 0, .int .i64 0, .int .i64 0, .string (⟨#[]⟩ : ByteArray), .int .i64 0, .int .i64 0, .int .i64 0, .int .i64 0, .string (⟨#[]⟩ : ByteArray), .slice none 0 0]) ?_ 0 _ rfl; refine zB ?_; exact BK227.out))⟩; have n6_ : Aside0 (Below w.heap.size w w33) := ⟨(by rw [hw]; exact (by repeat first | with_reducible exact HB.out | apply zS | refine below_set ?_ GE197.out | refine below_set ?_ GE212.out | refine below_set ?_ GE227.out | exact HB.out))⟩; clear hw; clear HO194; clear HO209; clear HO224; clear BK197; clear BK212; clear BK227; clear HB; have HO194 := n0_; have HO209 := n1_; have HO224 := n2_; have BK197 := n3_; have BK212 := n4_; have BK227 := n5_; have HB := n6_; clear n0_ n1_ n2_ n3_ n4_ n5_ n6_; obtain ⟨hcz34_0, hcz34_1, hcz34_2, hcz34_3, hcz34_4, hcz34_5, hcz34_6, hcz34_7, hcz34_8, hcz34_9, hfz34_0, hfz34_1, hfz34_2, hfz34_3, hfz34_4, hfz34_5, hfz34_6, hfz34_7, hfz34_8, hfz34_9⟩ := zC10 BK197.out; have p228 : 0 ≤ (1 : Int) := (by omega); have q228 : 1 < (t192.length : Int) := of_decide_eq_true (by first | (with_reducible assumption) | assumption); obtain ⟨ad228, A228_9, c228_9, e228, hx228_0, hx228_1, hx228_2, hx228_3, hx228_4, hx228_5, hx228_6, hx228_7, hx228_8, hx228_9, hl228_9, hi228_9⟩ := at_T31 (Kd.V_reads' HO194.out).2.2 1 p228 q228; cases e228; obtain ⟨ce228, hce228, hMe228, hcc228⟩ := Kd.V_get HO194.out z31 1 p228 (by first | exact q228 | exact of_decide_eq_true (by first | (with_reducible assumption) | assumption) | (have e_ := (Kd.V_reads' HO194.out).1; omega)); obtain ⟨ua228_9, uc228_9, rfl, ul228_9, ge228_9⟩ := k31_openF hMe228; have hv228_9 := hcc228 9 _ rfl; rw [add_field _ _ 9 (by omega)] at hv228_9; replace hv228_9 := Option.some.inj (hv228_9.symm.trans hx228_9); injection hv228_9 with hva_ hvn_ hvc_; rw [hva_] at ge228_9; rw [hvc_] at ul228_9; have HL228_9 := Aside0.mk (show Kd.V k31 31 _ w.heap.size _ _ ((rd_T31 t192 1).f4) from Kd.V_mk ul228_9 ge228_9); clear hva_ hvn_ hvc_ ge228_9 ul228_9; clear hcc228 hce228; (try simp only [show (1 : Int).toNat = 1 from rfl, Nat.reduceMul, Nat.reduceEqDiff, Go.Addr.add, ↓reduceIte] at hx228_0); (try simp only [show (1 : Int).toNat = 1 from rfl, Nat.reduceMul, Nat.reduceEqDiff, Go.Addr.add, ↓reduceIte] at hx228_1); (try simp only [show (1 : Int).toNat = 1 from rfl, Nat.reduceMul, Nat.reduceEqDiff, Go.Addr.add, ↓reduceIte] at hx228_2); (try simp only [show (1 : Int).toNat = 1 from rfl, Nat.reduceMul, Nat.reduceEqDiff, Go.Addr.add, ↓reduceIte] at hx228_3); (try simp only [show (1 : Int).toNat = 1 from rfl, Nat.reduceMul, Nat.reduceEqDiff, Go.Addr.add, ↓reduceIte] at hx228_4); (try simp only [show (1 : Int).toNat = 1 from rfl, Nat.reduceMul, Nat.reduceEqDiff, Go.Addr.add, ↓reduceIte] at hx228_5); (try simp only [show (1 : Int).toNat = 1 from rfl, Nat.reduceMul, Nat.reduceEqDiff, Go.Addr.add, ↓reduceIte] at hx228_6); (try simp only [show (1 : Int).toNat = 1 from rfl, Nat.reduceMul, Nat.reduceEqDiff, Go.Addr.add, ↓reduceIte] at hx228_7); (try simp only [show (1 : Int).toNat = 1 from rfl, Nat.reduceMul, Nat.reduceEqDiff, Go.Addr.add, ↓reduceIte] at hx228_8); (try simp only [show (1 : Int).toNat = 1 from rfl, Nat.reduceMul, Nat.reduceEqDiff, Go.Addr.add, ↓reduceIte] at hx228_9); have qi228 : (1 < t192.length) = True := eq_true (by omega); (try rw [show ((1 : Int)).toNat = 1 from rfl] at hx228_0); (try rw [show 1 * 10 = 10 from rfl] at hx228_0); (try rw [show ((1 : Int)).toNat = 1 from rfl] at hx228_1); (try rw [show 1 * 10 = 10 from rfl] at hx228_1); (try rw [show ((1 : Int)).toNat = 1 from rfl] at hx228_2); (try rw [show 1 * 10 = 10 from rfl] at hx228_2); (try rw [show ((1 : Int)).toNat = 1 from rfl] at hx228_3); (try rw [show 1 * 10 = 10 from rfl] at hx228_3); (try rw [show ((1 : Int)).toNat = 1 from rfl] at hx228_4); (try rw [show 1 * 10 = 10 from rfl] at hx228_4); (try rw [show ((1 : Int)).toNat = 1 from rfl] at hx228_5); (try rw [show 1 * 10 = 10 from rfl] at hx228_5); (try rw [show ((1 : Int)).toNat = 1 from rfl] at hx228_6); (try rw [show 1 * 10 = 10 from rfl] at hx228_6); (try rw [show ((1 : Int)).toNat = 1 from rfl] at hx228_7); (try rw [show 1 * 10 = 10 from rfl] at hx228_7); (try rw [show ((1 : Int)).toNat = 1 from rfl] at hx228_8); (try rw [show 1 * 10 = 10 from rfl] at hx228_8); (try rw [show ((1 : Int)).toNat = 1 from rfl] at hx228_9); (try rw [show 1 * 10 = 10 from rfl] at hx228_9); have HR228_9 := Aside0.mk hi228_9; have HC228_9 := Aside0.mk hl228_9; clear hi228_9 hl228_9; replace p228 := eq_true p228; replace q228 := eq_true q228; obtain ⟨hcz35_0, hcz35_1, hcz35_2, hcz35_3, hcz35_4, hcz35_5, hcz35_6, hcz35_7, hcz35_8, hcz35_9, hfz35_0, hfz35_1, hfz35_2, hfz35_3, hfz35_4, hfz35_5, hfz35_6, hfz35_7, hfz35_8, hfz35_9⟩ := zC10 BK212.out) | (go_at_call 17; (with_reducible refine (tree_Good.calls k t183 t184 t185 t186 t187 t188 t189 t190 t191 _ _ t192 true _ ?side1 ?side2 A15.out).mono ?_); (case side1 => repeat (first | exact (Kd.V_reads' HO194.out).2.2 | (with_reducible refine Kd.C_alloc ?_ _) | (with_reducible refine Kd.C_drewN ?_ _) | (with_reducible refine Kd.C_drew ?_))); (case side2 => exact (Kd.V_reads' HO194.out).2.1); rintro e w36 ⟨rfl, hb⟩; have n0_ := Aside0.mk (Kd.V_below (by (with_reducible repeat (first | apply Kd.V_alloc | apply Kd.V_drewN | apply Kd.V_drew)); exact HO194.out) hb); have n1_ := Aside0.mk (Kd.V_below (by (with_reducible repeat (first | apply Kd.V_alloc | apply Kd.V_drewN | apply Kd.V_drew)); exact HO209.out) hb); have n2_ := Aside0.mk (Kd.V_below (by (with_reducible repeat (first | apply Kd.V_alloc | apply Kd.V_drewN | apply Kd.V_drew)); exact HO224.out) hb); have n3_ := Aside0.mk (Kd.V_below (by (with_reducible repeat (first | apply Kd.V_alloc | apply Kd.V_drewN | apply Kd.V_drew)); exact HL228_9.out) hb); have n4_ := Aside0.mk (blk_below (g := gb197) (o := .cells #[.int .i64 t183, .int .i64 t184, .int .i64 t185, .string t186, .int .i64 t187, .int .i64 t188, .int .i64 t189, .int .i64 t190, .string t191, .slice (some ad228) t192.length co21] 31 (0, 0)) (zB BK197.out) hb); have n5_ := Aside0.mk (blk_below (g := gb212) (o := .cells #[.int .i64 t198, .int .i64 t199, .int .i64 t200, .string t201, .int .i64 t202, .int .i64 t203, .int .i64 t204, .int .i64 t205, .string t206, .slice Ao26 t207.length co26] 31 (0, 0)) (zB BK212.out) hb); have n6_ := Aside0.mk (blk_below (g := gb227) (o := .cells #[.int .i64 t213, .int .i64 t214, .int .i64 t215, .string t216, .int .i64 t217, .int .i64 t218, .int .i64 t219, .int .i64 t220, .string t221, .slice Ao32 t222.length co32] 31 (0, 0)) (zB BK227.out) hb); have n7_ := Aside0.mk (Kd.C_below (by repeat (first | (with_reducible exact HR228_9.out) | (with_reducible refine Kd.C_alloc ?_ _) | (with_reducible refine Kd.C_drewN ?_ _) | (with_reducible refine Kd.C_drew ?_) | exact HR228_9.out)) hb); have n8_ := Aside0.mk (below_step (by repeat first | with_reducible exact HB.out | apply zS | refine below_set ?_ GE197.out | refine below_set ?_ GE212.out | refine below_set ?_ GE227.out | exact HB.out) hb); clear HO194; clear HO209; clear HO224; clear HL228_9; clear BK197; clear BK212; clear BK227; clear HR228_9; clear HB; have HO194 := n0_; have HO209 := n1_; have HO224 := n2_; have HL228_9 := n3_; have BK197 := n4_; have BK212 := n5_; have BK227 := n6_; have HR228_9 := n7_; have HB := n8_; clear n0_ n1_ n2_ n3_ n4_ n5_ n6_ n7_ n8_; (try clear hb); (try clear hb2); (try clear hk); (try clear hi); obtain ⟨hcz37_0, hcz37_1, hcz37_2, hcz37_3, hcz37_4, hcz37_5, hcz37_6, hcz37_7, hcz37_8, hcz37_9, hfz37_0, hfz37_1, hfz37_2, hfz37_3, hfz37_4, hfz37_5, hfz37_6, hfz37_7, hfz37_8, hfz37_9⟩ := zC10 BK197.out) | (go_at_call 18; (with_reducible refine (tree_Depth.calls k t183 t184 t185 t186 t187 t188 t189 t190 t191 _ _ t192 t230 _ ?side1 ?side2 A17.out).mono ?_); (case side1 => repeat (first | exact (Kd.V_reads' HO194.out).2.2 | (with_reducible refine Kd.C_alloc ?_ _) | (with_reducible refine Kd.C_drewN ?_ _) | (with_reducible refine Kd.C_drew ?_))); (case side2 => exact (Kd.V_reads' HO194.out).2.1); rintro e w38 ⟨rfl, hb⟩; have n0_ := Aside0.mk (Kd.V_below (by (with_reducible repeat (first | apply Kd.V_alloc | apply Kd.V_drewN | apply Kd.V_drew)); exact HO194.out) hb); have n1_ := Aside0.mk (Kd.V_below (by (with_reducible repeat (first | apply Kd.V_alloc | apply Kd.V_drewN | apply Kd.V_drew)); exact HO209.out) hb); have n2_ := Aside0.mk (Kd.V_below (by (with_reducible repeat (first | apply Kd.V_alloc | apply Kd.V_drewN | apply Kd.V_drew)); exact HO224.out) hb); have n3_ := Aside0.mk (Kd.V_below (by (with_reducible repeat (first | apply Kd.V_alloc | apply Kd.V_drewN | apply Kd.V_drew)); exact HL228_9.out) hb); have n4_ := Aside0.mk (blk_below (g := gb197) (o := .cells #[.int .i64 t183, .int .i64 t184, .int .i64 t185, .string t186, .int .i64 t187, .int .i64 t188, .int .i64 t189, .int .i64 t190, .string t191, .slice (some ad228) t192.length co21] 31 (0, 0)) (zB BK197.out) hb); have n5_ := Aside0.mk (blk_below (g := gb212) (o := .cells #[.int .i64 t198, .int .i64 t199, .int .i64 t200, .string t201, .int .i64 t202, .int .i64 t203, .int .i64 t204, .int .i64 t205, .string t206, .slice Ao26 t207.length co26] 31 (0, 0)) (zB BK212.out) hb); have n6_ := Aside0.mk (blk_below (g := gb227) (o := .cells #[.int .i64 t213, .int .i64 t214, .int .i64 t215, .string t216, .int .i64 t217, .int .i64 t218, .int .i64 t219, .int .i64 t220, .string t221, .slice Ao32 t222.length co32] 31 (0, 0)) (zB BK227.out) hb); have n7_ := Aside0.mk (Kd.C_below (by repeat (first | (with_reducible exact HR228_9.out) | (with_reducible refine Kd.C_alloc ?_ _) | (with_reducible refine Kd.C_drewN ?_ _) | (with_reducible refine Kd.C_drew ?_) | exact HR228_9.out)) hb); have n8_ := Aside0.mk (below_step (by repeat first | with_reducible exact HB.out | apply zS | refine below_set ?_ GE197.out | refine below_set ?_ GE212.out | refine below_set ?_ GE227.out | exact HB.out) hb); clear HO194; clear HO209; clear HO224; clear HL228_9; clear BK197; clear BK212; clear BK227; clear HR228_9; clear HB; have HO194 := n0_; have HO209 := n1_; have HO224 := n2_; have HL228_9 := n3_; have BK197 := n4_; have BK212 := n5_; have BK227 := n6_; have HR228_9 := n7_; have HB := n8_; clear n0_ n1_ n2_ n3_ n4_ n5_ n6_ n7_ n8_; (try clear hb); (try clear hb2); (try clear hk); (try clear hi)))
                          go_ret
                          exact ⟨by first | rfl | (simp [errW_none, errW_some] <;> rfl) | (simp [*, errW_none, errW_some] <;> rfl), by repeat first | with_reducible exact HB.out | apply zS | refine below_set ?_ GE197.out | refine below_set ?_ GE212.out | refine below_set ?_ GE227.out | exact HB.out⟩
                        · replace c16 := Bool.eq_false_iff.mpr c16
                          subst c16
                          have H1 : (none) = some r := by rw [if_neg (show ¬ (false = true) by decide)] at H; exact H
                          clear H
                          have H := H1
                          clear H1
                          exact absurd H (by simp)
                      · rw [if_neg c14] at H
                        exact absurd H (by simp)
                    · rw [if_neg c13] at H
                      exact absurd H (by simp)
                  · rw [if_neg c12] at H
                    exact absurd H (by simp)
                · rw [if_neg c11] at H
                  exact absurd H (by simp)
              · rw [if_neg c10] at H
                exact absurd H (by simp)
            · rw [if_neg c9] at H
              exact absurd H (by simp)
          · rw [if_neg c8] at H
            exact absurd H (by simp)
        · rw [if_neg c7] at H
          exact absurd H (by simp)
      · rw [if_neg c6] at H
        exact absurd H (by simp)
    · rw [if_neg c5] at H
      exact absurd H (by simp)
  · rw [if_neg c4] at H
    exact absurd H (by simp)
end Go.Proofs.YtpcnaoipenclnaaGreatDoor.P

namespace Go.Proofs.YtpcnaoipenclnaaGreatDoor.P
open Go.RowKit Go.Proofs.YtpcnaoipenclnaaGreatDoorW.PrintWords Go.Proofs.YtpcnaoipenclnaaGreatDoorW.PrintLast Go.Proofs.YtpcnaoipenclnaaGreatDoorW.PrintMore
open M (I64)
attribute [local go_sem high] eqA28
set_option linter.unusedVariables false
set_option linter.unusedSimpArgs false
def sameL (f : TN → TN → Option Bool) : List TN → List TN → Option Bool
  | [], [] => some true
  | a :: l, b :: m => match f a b with | none => none | some false => some false | some true => sameL f l m
  | _, _ => some false
def valO (a b : TN) : Option Bool := value_Same.f a.f1.f0 a.f1.f1 a.f1.f2 b.f1.f0 b.f1.f1 b.f1.f2
def sameF : Nat → TN → TN → Option Bool
  | 0, _, _ => none
  | k + 1, a, b =>
    if a.f0 = b.f0 then
      match valO a b with
      | none => none
      | some false => some false
      | some true => if a.f2.f0.f0 = b.f2.f0.f0 ∧ a.f2.f0.f1 = b.f2.f0.f1 ∧ a.f2.f1.f0 = b.f2.f1.f0 ∧ a.f2.f1.f1 = b.f2.f1.f1 then (if (a.f3.toList == b.f3.toList) = true then (if a.f4.length = b.f4.length then sameL (sameF k) a.f4 b.f4 else some false) else some false) else some false
    else some false
def SameC (k : Nat) : Prop := ∀ (s t : TN) (A B : Option Addr) (c d : Nat) (W : World) (r : Bool), Kd.C k31 W A s.f4.length s.f4 → s.f4.length ≤ c → Kd.C k31 W B t.f4.length t.f4 → t.f4.length ≤ d → sameF k s t = some r →
  Calls Tryz.prog 50 #[ndV s (.slice A s.f4.length c), ndV t (.slice B t.f4.length d)] W fun e W' => e = .returned (.bool r) ∧ Below W.heap.size W W'
theorem SameC.go {k : Nat} (h : SameC k) (s t : TN) (A B : Option Addr) (c d : Nat) (W : World) (r : Bool) (h1 : Kd.C k31 W A s.f4.length s.f4) (h2 : s.f4.length ≤ c) (h3 : Kd.C k31 W B t.f4.length t.f4) (h4 : t.f4.length ≤ d) (h5 : sameF k s t = some r) :
    Calls Tryz.prog 50 #[ndV s (.slice A s.f4.length c), ndV t (.slice B t.f4.length d)] W fun e W' => e = .returned (.bool r) ∧ Below W.heap.size W W' := h s t A B c d W r h1 h2 h3 h4 h5
theorem C_elem {W : World} {A : Option Addr} {l : List TN} (h : Kd.C k31 W A l.length l) (j : Nat) (x : TN) (hx : l[j]? = some x) :
    ∃ ad A9 c9, A = some ad ∧ W.cell? (ad.add (j * 10)) = some (.int .i64 x.f0) ∧ W.cell? ⟨(ad.add (j * 10)).block, (ad.add (j * 10)).off + 1, none⟩ = some (.int .i64 x.f1.f0) ∧ W.cell? ⟨(ad.add (j * 10)).block, (ad.add (j * 10)).off + 2, none⟩ = some (.int .i64 x.f1.f1) ∧ W.cell? ⟨(ad.add (j * 10)).block, (ad.add (j * 10)).off + 3, none⟩ = some (.string x.f1.f2) ∧ W.cell? ⟨(ad.add (j * 10)).block, (ad.add (j * 10)).off + 4, none⟩ = some (.int .i64 x.f2.f0.f0) ∧ W.cell? ⟨(ad.add (j * 10)).block, (ad.add (j * 10)).off + 5, none⟩ = some (.int .i64 x.f2.f0.f1) ∧ W.cell? ⟨(ad.add (j * 10)).block, (ad.add (j * 10)).off + 6, none⟩ = some (.int .i64 x.f2.f1.f0) ∧ W.cell? ⟨(ad.add (j * 10)).block, (ad.add (j * 10)).off + 7, none⟩ = some (.int .i64 x.f2.f1.f1) ∧ W.cell? ⟨(ad.add (j * 10)).block, (ad.add (j * 10)).off + 8, none⟩ = some (.string x.f3) ∧ W.cell? ⟨(ad.add (j * 10)).block, (ad.add (j * 10)).off + 9, none⟩ = some (.slice A9 x.f4.length c9) ∧ x.f4.length ≤ c9 ∧ Kd.C k31 W A9 x.f4.length x.f4 := by
  obtain ⟨hj, rfl⟩ := List.getElem?_eq_some_iff.1 hx
  obtain ⟨ad, A9, c9, rfl, e0, e1, e2, e3, e4, e5, e6, e7, e8, e9, hl9, hi9⟩ := at_T31 h (j : Int) (by omega) (by omega)
  have hr : rd_T31 l (j : Int) = l[j] := by unfold rd_T31; simp [List.getD_eq_getElem?_getD, hj]
  rw [hr, show ((j : Int)).toNat = j by omega] at e0 e1 e2 e3 e4 e5 e6 e7 e8 e9
  rw [hr] at hl9 hi9
  exact ⟨ad, A9, c9, rfl, e0, e1, e2, e3, e4, e5, e6, e7, e8, e9, hl9, hi9⟩
def EqS (k : Nat) (l m : List TN) (W : World) (r : Bool) (i : Value) (wr : World) : Prop :=
  ∃ j : Nat, i = .int .i64 (j : Int) ∧ j ≤ l.length ∧ sameL (sameF k) (l.drop j) (m.drop j) = some r ∧ Below W.heap.size W wr
set_option maxHeartbeats 2000000 in
set_option maxRecDepth 100000 in
theorem equal_calls {k : Nat} (h : SameC k) (l m : List TN) (A B : Option Addr) (c d : Nat) (W : World) (r : Bool) (h1 : Kd.C k31 W A l.length l) (h2 : l.length ≤ c) (h1' : Kd.C k31 W B m.length m) (h2' : m.length ≤ d) (h3 : (if l.length = m.length then sameL (sameF k) l m else some false) = some r) :
    Calls Tryz.prog 81 #[.slice A l.length c, .slice B m.length d, .func (.func 50) #[] #[]] W fun e W' => e = .returned (.bool r) ∧ Below W.heap.size W W' := by
  have HC := Lib.hid h1
  have HD := Lib.hid h1'
  have H := Lib.hid h
  have hlen := h1.2.1
  clear h1 h2 h1' h2' h
  by_cases he : l.length = m.length
  · rw [if_pos he] at h3
    have H3 := Lib.hid h3
    have HE := Lib.hid he
    have hq : ((l.length : Int) != (m.length : Int)) = false := by rw [he]; simp
    clear h3 he
    go_enter Tryz.func81, Tryz.ntmps81
    go_wp2
    go_loopw [17] (EqS k l m W r) (fun i _ => l.length - (intOf i).toNat)
    case atStart => exact ⟨0, rfl, Nat.zero_le _, H3.out, Below.refl _ _⟩
    case round =>
      obtain ⟨j, rfl, hj, hF, hb⟩ := hrel
      have HB := Lib.hid hb
      have HCr := Lib.hid (Kd.C_below HC.out hb)
      have HDr := Lib.hid (Kd.C_below HD.out hb)
      clear H3 hb hq
      by_cases hlt : j < l.length
      · obtain ⟨x, hx⟩ : ∃ x, l[j]? = some x := ⟨_, List.getElem?_eq_getElem hlt⟩
        obtain ⟨y, hy⟩ : ∃ y, m[j]? = some y := ⟨_, List.getElem?_eq_getElem (by have := HE.out; omega)⟩
        have hd1 : l.drop j = x :: l.drop (j + 1) := by
          obtain ⟨g1, g2⟩ := List.getElem?_eq_some_iff.1 hx
          rw [List.drop_eq_getElem_cons g1, g2]
        have hd2 : m.drop j = y :: m.drop (j + 1) := by
          obtain ⟨g1, g2⟩ := List.getElem?_eq_some_iff.1 hy
          rw [List.drop_eq_getElem_cons g1, g2]
        obtain ⟨ad, A9, c9, rfl, e0, e1, e2, e3, e4, e5, e6, e7, e8, e9, hl9, hi9⟩ := C_elem HCr.out j x hx
        obtain ⟨bd, B9, d9, rfl, f0, f1, f2, f3, f4, f5, f6, f7, f8, f9, kl9, ki9⟩ := C_elem HDr.out j y hy
        rw [hd1, hd2, sameL] at hF
        have hq1 : ((0 : Int) ≤ (j : Int)) = True := eq_true (by omega)
        have hq2 : ((j : Int) < (l.length : Int)) = True := eq_true (by omega)
        have hq4 : ((j : Int) < (m.length : Int)) = True := eq_true (by have := HE.out; omega)
        have hq3 : decide ((j : Int) < (l.length : Int)) = true := decide_eq_true (by omega)
        have t1 : (ad.add (j * 10)).block < wr.heap.size := World.block_lt_of_cell? _ _ e0
        have t2 : (bd.add (j * 10)).block < wr.heap.size := World.block_lt_of_cell? _ _ f0
        have HI9 := Lib.hid hi9
        have HL9 := Lib.hid hl9
        have KI9 := Lib.hid ki9
        have KL9 := Lib.hid kl9
        cases hf : sameF k x y with
        | none => rw [hf] at hF; cases hF
        | some r1 =>
          rw [hf] at hF
          have HF := Lib.hid hf
          have HHF := Lib.hid hF
          clear hf hF hx hy hd1 hd2 hl9 hi9 kl9 ki9
          cases r1 with
          | false =>
            go_wp2_with (first | (go_at_call 50; (with_reducible refine (H.out.go x y A9 B9 c9 d9 _ false ?s1 HL9.out ?s2 KL9.out HF.out).mono ?_); (case s1 => exact Kd.C_alloc (Kd.C_alloc HI9.out _) _); (case s2 => exact Kd.C_alloc (Kd.C_alloc KI9.out _) _); rintro e w2 ⟨rfl, hb2⟩; have HB2 := Lib.hid (Below.on HB.out (Below.of_alloc (Below.of_alloc hb2))); clear hb2))
            have hh := HHF.out
            simp only [Option.some.injEq] at hh
            subst hh
            go_ret
            exact ⟨rfl, HB2.out⟩
          | true =>
            go_wp2_with (first | (go_at_call 50; (with_reducible refine (H.out.go x y A9 B9 c9 d9 _ true ?s1 HL9.out ?s2 KL9.out HF.out).mono ?_); (case s1 => exact Kd.C_alloc (Kd.C_alloc HI9.out _) _); (case s2 => exact Kd.C_alloc (Kd.C_alloc KI9.out _) _); rintro e w2 ⟨rfl, hb2⟩; have HB2 := Lib.hid (Below.on HB.out (Below.of_alloc (Below.of_alloc hb2))); clear hb2))
            go_roundw
            case rel => exact ⟨j + 1, by go_num, by omega, HHF.out, HB2.out⟩
            case measure => simp [intOf]; omega
      · have hjl : j = l.length := by omega
        subst hjl
        rw [List.drop_length, HE.out, List.drop_length, sameL] at hF
        have hq3 : decide ((l.length : Int) < (l.length : Int)) = false := decide_eq_false (by omega)
        have HHF := Lib.hid hF
        clear hF
        go_wp2
        have hh := HHF.out
        simp only [Option.some.injEq] at hh
        subst hh
        go_ret
        exact ⟨rfl, HB.out⟩
  · rw [if_neg he] at h3
    obtain rfl := Option.some.inj h3
    have hq : ((l.length : Int) != (m.length : Int)) = true := bne_iff_ne.2 (by omega)
    clear h3
    go_enter Tryz.func81, Tryz.ntmps81
    go_wp2
    go_ret
    exact ⟨rfl, Below.refl _ _⟩
set_option maxHeartbeats 2000000 in
set_option maxRecDepth 100000 in
theorem same_kind (s t : TN) (A B : Option Addr) (c d : Nat) (W : World) (h : s.f0 ≠ t.f0) :
    Calls Tryz.prog 50 #[ndV s (.slice A s.f4.length c), ndV t (.slice B t.f4.length d)] W fun e W' => e = .returned (.bool false) ∧ Below W.heap.size W W' := by
  have hq : ((s.f0 : Int) == t.f0) = false := beq_eq_false_iff_ne.2 h
  clear h
  go_enter Tryz.func50, Tryz.ntmps50
  go_wp2
  go_ret
  exact ⟨rfl, below_alloc (below_alloc (Below.refl _ _) _) _⟩
set_option maxHeartbeats 2000000 in
set_option maxRecDepth 100000 in
theorem same_val (s t : TN) (A B : Option Addr) (c d : Nat) (W : World) (h : s.f0 = t.f0) (hv : valO s t = some false) (h1 : Kd.C k31 W A s.f4.length s.f4) (h2 : Kd.C k31 W B t.f4.length t.f4) :
    Calls Tryz.prog 50 #[ndV s (.slice A s.f4.length c), ndV t (.slice B t.f4.length d)] W fun e W' => e = .returned (.bool false) ∧ Below W.heap.size W W' := by
  have hq : ((s.f0 : Int) == t.f0) = true := beq_iff_eq.2 h
  unfold valO at hv
  have HV := Lib.hid hv
  have HA := Lib.hid h1
  have HT := Lib.hid h2
  clear h hv h1 h2
  go_enter Tryz.func50, Tryz.ntmps50
  go_wp2_with (first | (go_at_call 80; (with_reducible refine (value_Same.calls s.f1.f0 s.f1.f1 s.f1.f2 t.f1.f0 t.f1.f1 t.f1.f2 false _ HV.out).mono ?_); rintro e w2 ⟨rfl, hb⟩; have hb_ := Below.of_alloc (Below.of_alloc hb); have HB := Lib.hid hb_; have e1 := (z10 (blk_below (blk_at' (W.alloc (ndO s (.slice A s.f4.length c))) (ndO t (.slice B t.f4.length d)) (W.heap.size + 1) (by simp)) hb)).1; have e2 := (z10 (blk_below (blk_alloc (blk_new W (ndO s (.slice A s.f4.length c))) (ndO t (.slice B t.f4.length d))) hb)).1; have HA2 := Lib.hid (Kd.C_below HA.out hb_); have HT2 := Lib.hid (Kd.C_below HT.out hb_); clear hb hb_; obtain ⟨p0, p1, p2, p3, p4, p5, p6, p7, p8, p9⟩ := e1; obtain ⟨q0, q1, q2, q3, q4, q5, q6, q7, q8, q9⟩ := e2))
  go_ret
  exact ⟨rfl, HB.out⟩
set_option maxHeartbeats 2000000 in
set_option maxRecDepth 100000 in
theorem same_rect (s t : TN) (A B : Option Addr) (c d : Nat) (W : World) (h : s.f0 = t.f0) (hv : valO s t = some true) (h1 : Kd.C k31 W A s.f4.length s.f4) (h2 : Kd.C k31 W B t.f4.length t.f4) (hr : ((s.f2.f0.f0 == t.f2.f0.f0 && (s.f2.f0.f1 == t.f2.f0.f1)) && ((s.f2.f1.f0 == t.f2.f1.f0 && (s.f2.f1.f1 == t.f2.f1.f1)))) = false) :
    Calls Tryz.prog 50 #[ndV s (.slice A s.f4.length c), ndV t (.slice B t.f4.length d)] W fun e W' => e = .returned (.bool false) ∧ Below W.heap.size W W' := by
  have hq : ((s.f0 : Int) == t.f0) = true := beq_iff_eq.2 h
  unfold valO at hv
  have HV := Lib.hid hv
  have HA := Lib.hid h1
  have HT := Lib.hid h2
  clear h hv h1 h2
  go_enter Tryz.func50, Tryz.ntmps50
  go_wp2_with (first | (go_at_call 80; (with_reducible refine (value_Same.calls s.f1.f0 s.f1.f1 s.f1.f2 t.f1.f0 t.f1.f1 t.f1.f2 true _ HV.out).mono ?_); rintro e w2 ⟨rfl, hb⟩; have hb_ := Below.of_alloc (Below.of_alloc hb); have HB := Lib.hid hb_; have e1 := (z10 (blk_below (blk_at' (W.alloc (ndO s (.slice A s.f4.length c))) (ndO t (.slice B t.f4.length d)) (W.heap.size + 1) (by simp)) hb)).1; have e2 := (z10 (blk_below (blk_alloc (blk_new W (ndO s (.slice A s.f4.length c))) (ndO t (.slice B t.f4.length d))) hb)).1; have HA2 := Lib.hid (Kd.C_below HA.out hb_); have HT2 := Lib.hid (Kd.C_below HT.out hb_); clear hb hb_; obtain ⟨p0, p1, p2, p3, p4, p5, p6, p7, p8, p9⟩ := e1; obtain ⟨q0, q1, q2, q3, q4, q5, q6, q7, q8, q9⟩ := e2))
  go_ret
  exact ⟨by first | rfl | (simp [*]; done), HB.out⟩
set_option maxHeartbeats 2000000 in
set_option maxRecDepth 100000 in
theorem same_op (s t : TN) (A B : Option Addr) (c d : Nat) (W : World) (h : s.f0 = t.f0) (hv : valO s t = some true) (h1 : Kd.C k31 W A s.f4.length s.f4) (h2 : Kd.C k31 W B t.f4.length t.f4) (hr : ((s.f2.f0.f0 == t.f2.f0.f0 && (s.f2.f0.f1 == t.f2.f0.f1)) && ((s.f2.f1.f0 == t.f2.f1.f0 && (s.f2.f1.f1 == t.f2.f1.f1)))) = true) (ho : (s.f3.toList == t.f3.toList) = false) :
    Calls Tryz.prog 50 #[ndV s (.slice A s.f4.length c), ndV t (.slice B t.f4.length d)] W fun e W' => e = .returned (.bool false) ∧ Below W.heap.size W W' := by
  have hq : ((s.f0 : Int) == t.f0) = true := beq_iff_eq.2 h
  unfold valO at hv
  have HV := Lib.hid hv
  have HA := Lib.hid h1
  have HT := Lib.hid h2
  clear h hv h1 h2
  go_enter Tryz.func50, Tryz.ntmps50
  go_wp2_with (first | (go_at_call 80; (with_reducible refine (value_Same.calls s.f1.f0 s.f1.f1 s.f1.f2 t.f1.f0 t.f1.f1 t.f1.f2 true _ HV.out).mono ?_); rintro e w2 ⟨rfl, hb⟩; have hb_ := Below.of_alloc (Below.of_alloc hb); have HB := Lib.hid hb_; have e1 := (z10 (blk_below (blk_at' (W.alloc (ndO s (.slice A s.f4.length c))) (ndO t (.slice B t.f4.length d)) (W.heap.size + 1) (by simp)) hb)).1; have e2 := (z10 (blk_below (blk_alloc (blk_new W (ndO s (.slice A s.f4.length c))) (ndO t (.slice B t.f4.length d))) hb)).1; have HA2 := Lib.hid (Kd.C_below HA.out hb_); have HT2 := Lib.hid (Kd.C_below HT.out hb_); clear hb hb_; obtain ⟨p0, p1, p2, p3, p4, p5, p6, p7, p8, p9⟩ := e1; obtain ⟨q0, q1, q2, q3, q4, q5, q6, q7, q8, q9⟩ := e2))
  go_ret
  exact ⟨by first | rfl | (simp [*]; done), HB.out⟩
set_option maxHeartbeats 2000000 in
set_option maxRecDepth 100000 in
theorem same_args (s t : TN) (A B : Option Addr) (c d : Nat) (W : World) (h : s.f0 = t.f0) (hv : valO s t = some true) (h1 : Kd.C k31 W A s.f4.length s.f4) (h2 : Kd.C k31 W B t.f4.length t.f4) {k : Nat} (hk : SameC k) (r : Bool) (g1 : s.f4.length ≤ c) (g2 : t.f4.length ≤ d) (hr : ((s.f2.f0.f0 == t.f2.f0.f0 && (s.f2.f0.f1 == t.f2.f0.f1)) && ((s.f2.f1.f0 == t.f2.f1.f0 && (s.f2.f1.f1 == t.f2.f1.f1)))) = true) (ho : (s.f3.toList == t.f3.toList) = true) (h3 : (if s.f4.length = t.f4.length then sameL (sameF k) s.f4 t.f4 else some false) = some r) :
    Calls Tryz.prog 50 #[ndV s (.slice A s.f4.length c), ndV t (.slice B t.f4.length d)] W fun e W' => e = .returned (.bool r) ∧ Below W.heap.size W W' := by
  have hq : ((s.f0 : Int) == t.f0) = true := beq_iff_eq.2 h
  unfold valO at hv
  have HV := Lib.hid hv
  have HA := Lib.hid h1
  have HT := Lib.hid h2
  clear h hv h1 h2
  have HK := Lib.hid hk
  have HR := Lib.hid h3
  have HC1 := Lib.hid g1
  have HD1 := Lib.hid g2
  clear hk h3 g1 g2
  go_enter Tryz.func50, Tryz.ntmps50
  go_wp2_with (first | (go_at_call 80; (with_reducible refine (value_Same.calls s.f1.f0 s.f1.f1 s.f1.f2 t.f1.f0 t.f1.f1 t.f1.f2 true _ HV.out).mono ?_); rintro e w2 ⟨rfl, hb⟩; have hb_ := Below.of_alloc (Below.of_alloc hb); have HB := Lib.hid hb_; have e1 := (z10 (blk_below (blk_at' (W.alloc (ndO s (.slice A s.f4.length c))) (ndO t (.slice B t.f4.length d)) (W.heap.size + 1) (by simp)) hb)).1; have e2 := (z10 (blk_below (blk_alloc (blk_new W (ndO s (.slice A s.f4.length c))) (ndO t (.slice B t.f4.length d))) hb)).1; have HA2 := Lib.hid (Kd.C_below HA.out hb_); have HT2 := Lib.hid (Kd.C_below HT.out hb_); clear hb hb_; obtain ⟨p0, p1, p2, p3, p4, p5, p6, p7, p8, p9⟩ := e1; obtain ⟨q0, q1, q2, q3, q4, q5, q6, q7, q8, q9⟩ := e2) | (go_at_call 81; (with_reducible refine (equal_calls HK.out s.f4 t.f4 A B c d _ r HA2.out HC1.out HT2.out HD1.out HR.out).mono ?_); rintro e w3 ⟨rfl, hb⟩; have HB3 := Lib.hid (Below.on HB.out hb); clear hb))
  go_ret
  exact ⟨by first | rfl | (simp [*]; done), HB3.out⟩
theorem same_all : ∀ k, SameC k := by
  intro k
  induction k with
  | zero => intro s t A B c d W r h1 h2 h3 h4 h5; cases h5
  | succ k ih =>
    intro s t A B c d W r h1 h2 h3 h4 h5
    unfold sameF at h5
    by_cases e0 : s.f0 = t.f0
    · rw [if_pos e0] at h5
      cases ev : valO s t with
      | none => rw [ev] at h5; cases h5
      | some b =>
        rw [ev] at h5
        cases b with
        | false => cases h5; exact same_val s t A B c d W e0 ev h1 h3
        | true =>
          dsimp only at h5
          by_cases er : s.f2.f0.f0 = t.f2.f0.f0 ∧ s.f2.f0.f1 = t.f2.f0.f1 ∧ s.f2.f1.f0 = t.f2.f1.f0 ∧ s.f2.f1.f1 = t.f2.f1.f1
          · rw [if_pos er] at h5
            have hr : ((s.f2.f0.f0 == t.f2.f0.f0 && (s.f2.f0.f1 == t.f2.f0.f1)) && ((s.f2.f1.f0 == t.f2.f1.f0 && (s.f2.f1.f1 == t.f2.f1.f1)))) = true := by simp [er.1, er.2.1, er.2.2.1, er.2.2.2]
            by_cases eo : (s.f3.toList == t.f3.toList) = true
            · rw [if_pos eo] at h5
              exact same_args s t A B c d W e0 ev h1 h3 ih r h2 h4 hr eo h5
            · rw [if_neg eo] at h5
              cases h5
              exact same_op s t A B c d W e0 ev h1 h3 hr (by simpa using eo)
          · rw [if_neg er] at h5
            cases h5
            refine same_rect s t A B c d W e0 ev h1 h3 ?_
            rw [Bool.eq_false_iff]
            intro hh
            simp only [Bool.and_eq_true, beq_iff_eq] at hh
            exact er ⟨hh.1.1, hh.1.2, hh.2.1, hh.2.2⟩
    · rw [if_neg e0] at h5
      cases h5
      exact same_kind s t A B c d W e0
end Go.Proofs.YtpcnaoipenclnaaGreatDoor.P

namespace Go.Proofs.YtpcnaoipenclnaaGreatDoor.P
open Go.RowKit Go.Proofs.YtpcnaoipenclnaaGreatDoorW.PrintWords Go.Proofs.YtpcnaoipenclnaaGreatDoorW.PrintLast Go.Proofs.YtpcnaoipenclnaaGreatDoorW.PrintMore
set_option linter.unusedVariables false
set_option linter.unusedSimpArgs false
def tree_same.f (k : Nat) (a0_0 a0_1 a0_2 : Int) (a0_3 : ByteArray) (a0_4 a0_5 a0_6 a0_7 : Int) (a0_8 : ByteArray) (l0_9 : List S31) (a1_0 a1_1 a1_2 : Int) (a1_3 : ByteArray) (a1_4 a1_5 a1_6 a1_7 : Int) (a1_8 : ByteArray) (l1_9 : List S31) : Option Bool :=
  sameF k ⟨a0_0, ⟨a0_1, a0_2, a0_3⟩, ⟨⟨a0_4, a0_5⟩, ⟨a0_6, a0_7⟩⟩, a0_8, l0_9⟩ ⟨a1_0, ⟨a1_1, a1_2, a1_3⟩, ⟨⟨a1_4, a1_5⟩, ⟨a1_6, a1_7⟩⟩, a1_8, l1_9⟩
theorem tree_same.calls (k : Nat) (a0_0 a0_1 a0_2 : Int) (a0_3 : ByteArray) (a0_4 a0_5 a0_6 a0_7 : Int) (a0_8 : ByteArray) (A0_9 : Option Addr) (c0_9 : Nat) (l0_9 : List S31) (a1_0 a1_1 a1_2 : Int) (a1_3 : ByteArray) (a1_4 a1_5 a1_6 a1_7 : Int) (a1_8 : ByteArray) (A1_9 : Option Addr) (c1_9 : Nat) (l1_9 : List S31) (r : Bool) (w : World)
    (hr0_9 : Kd.C k31 w A0_9 l0_9.length l0_9) (hc0_9 : l0_9.length ≤ c0_9) (hr1_9 : Kd.C k31 w A1_9 l1_9.length l1_9) (hc1_9 : l1_9.length ≤ c1_9) (h : tree_same.f k a0_0 a0_1 a0_2 a0_3 a0_4 a0_5 a0_6 a0_7 a0_8 l0_9 a1_0 a1_1 a1_2 a1_3 a1_4 a1_5 a1_6 a1_7 a1_8 l1_9 = some r) :
    Calls Tryz.prog 50 #[.agg #[.int .i64 a0_0, .int .i64 a0_1, .int .i64 a0_2, .string a0_3, .int .i64 a0_4, .int .i64 a0_5, .int .i64 a0_6, .int .i64 a0_7, .string a0_8, .slice A0_9 l0_9.length c0_9], .agg #[.int .i64 a1_0, .int .i64 a1_1, .int .i64 a1_2, .string a1_3, .int .i64 a1_4, .int .i64 a1_5, .int .i64 a1_6, .int .i64 a1_7, .string a1_8, .slice A1_9 l1_9.length c1_9]] w fun e w' => e = .returned (.bool r) ∧ Below w.heap.size w w' :=
  same_all k ⟨a0_0, ⟨a0_1, a0_2, a0_3⟩, ⟨⟨a0_4, a0_5⟩, ⟨a0_6, a0_7⟩⟩, a0_8, l0_9⟩ ⟨a1_0, ⟨a1_1, a1_2, a1_3⟩, ⟨⟨a1_4, a1_5⟩, ⟨a1_6, a1_7⟩⟩, a1_8, l1_9⟩ A0_9 A1_9 c0_9 c1_9 w r hr0_9 hc0_9 hr1_9 hc1_9 h
theorem sameL_mono {f g : TN → TN → Option Bool} (h : ∀ a b r, f a b = some r → g a b = some r) : ∀ l m r, sameL f l m = some r → sameL g l m = some r := by
  intro l
  induction l with
  | nil => intro m r hr; cases m with | nil => exact hr | cons b m => exact hr
  | cons a l ih =>
    intro m r hr
    cases m with
    | nil => exact hr
    | cons b m =>
      rw [sameL] at hr ⊢
      cases e : f a b with
      | none => rw [e] at hr; cases hr
      | some x =>
        rw [h a b x e]
        rw [e] at hr
        cases x with
        | false => exact hr
        | true => exact ih m r hr
theorem sameF_mono : ∀ k a b r, sameF k a b = some r → sameF (k + 1) a b = some r := by
  intro k
  induction k with
  | zero => intro a b r h; cases h
  | succ k ih =>
    intro a b r h
    rw [sameF] at h ⊢
    by_cases e0 : a.f0 = b.f0
    · rw [if_pos e0] at h ⊢
      cases ev : valO a b with
      | none => rw [ev] at h; cases h
      | some x =>
        rw [ev] at h
        cases x with
        | false => exact h
        | true =>
          dsimp only at h ⊢
          by_cases er : a.f2.f0.f0 = b.f2.f0.f0 ∧ a.f2.f0.f1 = b.f2.f0.f1 ∧ a.f2.f1.f0 = b.f2.f1.f0 ∧ a.f2.f1.f1 = b.f2.f1.f1
          · rw [if_pos er] at h ⊢
            by_cases eo : (a.f3.toList == b.f3.toList) = true
            · rw [if_pos eo] at h ⊢
              by_cases el : a.f4.length = b.f4.length
              · rw [if_pos el] at h ⊢; exact sameL_mono ih _ _ _ h
              · rw [if_neg el] at h ⊢; exact h
            · rw [if_neg eo] at h ⊢; exact h
          · rw [if_neg er] at h ⊢; exact h
    · rw [if_neg e0] at h ⊢; exact h
end Go.Proofs.YtpcnaoipenclnaaGreatDoor.P

namespace Go.Proofs.YtpcnaoipenclnaaGreatDoor.P
open Go.RowKit Go.Proofs.YtpcnaoipenclnaaGreatDoorW.PrintWords Go.Proofs.YtpcnaoipenclnaaGreatDoorW.PrintLast Go.Proofs.YtpcnaoipenclnaaGreatDoorW.PrintMore
attribute [local go_sem] max2_int min2_int max_two min_two max_three min_three max_four min_four   -- for this text's walks alone
set_option linter.unusedVariables false
set_option linter.unusedSimpArgs false
def tree_Same.f (k : Nat) (a0_0 : Int) (a0_1 : Int) (a0_2 : Int) (a0_3 : ByteArray) (a0_4 : Int) (a0_5 : Int) (a0_6 : Int) (a0_7 : Int) (a0_8 : ByteArray) (l0_9 : List (S31)) (a1_0 : Int) (a1_1 : Int) (a1_2 : Int) (a1_3 : ByteArray) (a1_4 : Int) (a1_5 : Int) (a1_6 : Int) (a1_7 : Int) (a1_8 : ByteArray) (l1_9 : List (S31)) : Option (Bool) := (tree_small.f a0_0 a0_1 a0_2 a0_3 a0_4 a0_5 a0_6 a0_7 a0_8 l0_9).bind fun t456 => (if t456 = true then ((tree_small.f a1_0 a1_1 a1_2 a1_3 a1_4 a1_5 a1_6 a1_7 a1_8 l1_9).bind fun t457 => (if t457 = true then ((tree_same.f k a0_0 a0_1 a0_2 a0_3 a0_4 a0_5 a0_6 a0_7 a0_8 l0_9 a1_0 a1_1 a1_2 a1_3 a1_4 a1_5 a1_6 a1_7 a1_8 l1_9).bind fun t458 => (some t458)) else (some false))) else (some false))
set_option maxHeartbeats 8000000 in
set_option maxRecDepth 100000 in
theorem tree_Same.calls (k : Nat) (a0_0 : Int) (a0_1 : Int) (a0_2 : Int) (a0_3 : ByteArray) (a0_4 : Int) (a0_5 : Int) (a0_6 : Int) (a0_7 : Int) (a0_8 : ByteArray) (A0_9 : Option Addr) (c0_9 : Nat) (l0_9 : List (S31)) (a1_0 : Int) (a1_1 : Int) (a1_2 : Int) (a1_3 : ByteArray) (a1_4 : Int) (a1_5 : Int) (a1_6 : Int) (a1_7 : Int) (a1_8 : ByteArray) (A1_9 : Option Addr) (c1_9 : Nat) (l1_9 : List (S31)) (r : Bool) (w : World) (hr0_9 : Kd.C k31 w A0_9 l0_9.length l0_9) (hc0_9 : l0_9.length ≤ c0_9) (hr1_9 : Kd.C k31 w A1_9 l1_9.length l1_9) (hc1_9 : l1_9.length ≤ c1_9) (h : tree_Same.f k a0_0 a0_1 a0_2 a0_3 a0_4 a0_5 a0_6 a0_7 a0_8 l0_9 a1_0 a1_1 a1_2 a1_3 a1_4 a1_5 a1_6 a1_7 a1_8 l1_9 = some r) :
    Calls Tryz.prog 19 #[.agg #[.int .i64 a0_0, .int .i64 a0_1, .int .i64 a0_2, .string a0_3, .int .i64 a0_4, .int .i64 a0_5, .int .i64 a0_6, .int .i64 a0_7, .string a0_8, .slice A0_9 l0_9.length c0_9], .agg #[.int .i64 a1_0, .int .i64 a1_1, .int .i64 a1_2, .string a1_3, .int .i64 a1_4, .int .i64 a1_5, .int .i64 a1_6, .int .i64 a1_7, .string a1_8, .slice A1_9 l1_9.length c1_9]] w fun e w' => e = .returned (.bool r) ∧ Below w.heap.size w w' := by
  have hu31 := Tryz.underlying31
  have HR0_9 := Aside0.mk hr0_9
  have HC0_9 := Aside0.mk hc0_9
  clear hr0_9 hc0_9
  have HR1_9 := Aside0.mk hr1_9
  have HC1_9 := Aside0.mk hc1_9
  clear hr1_9 hc1_9
  have HB := Aside0.mk (Below.refl w.heap.size w)
  have H : ((tree_small.f a0_0 a0_1 a0_2 a0_3 a0_4 a0_5 a0_6 a0_7 a0_8 l0_9).bind fun t456 => (if t456 = true then ((tree_small.f a1_0 a1_1 a1_2 a1_3 a1_4 a1_5 a1_6 a1_7 a1_8 l1_9).bind fun t457 => (if t457 = true then ((tree_same.f k a0_0 a0_1 a0_2 a0_3 a0_4 a0_5 a0_6 a0_7 a0_8 l0_9 a1_0 a1_1 a1_2 a1_3 a1_4 a1_5 a1_6 a1_7 a1_8 l1_9).bind fun t458 => (some t458)) else (some false))) else (some false))) = some r := h
  clear h
  replace H := Option.bind_eq_some_iff.mp H
  obtain ⟨t456, A30, H⟩ := H
  replace H : (if t456 = true then ((tree_small.f a1_0 a1_1 a1_2 a1_3 a1_4 a1_5 a1_6 a1_7 a1_8 l1_9).bind fun t457 => (if t457 = true then ((tree_same.f k a0_0 a0_1 a0_2 a0_3 a0_4 a0_5 a0_6 a0_7 a0_8 l0_9 a1_0 a1_1 a1_2 a1_3 a1_4 a1_5 a1_6 a1_7 a1_8 l1_9).bind fun t458 => (some t458)) else (some false))) else (some false)) = some r := H
  have A3 := Aside0.mk A30
  clear A30
  by_cases c4 : t456 = true
  · subst c4
    have H1 : ((tree_small.f a1_0 a1_1 a1_2 a1_3 a1_4 a1_5 a1_6 a1_7 a1_8 l1_9).bind fun t457 => (if t457 = true then ((tree_same.f k a0_0 a0_1 a0_2 a0_3 a0_4 a0_5 a0_6 a0_7 a0_8 l0_9 a1_0 a1_1 a1_2 a1_3 a1_4 a1_5 a1_6 a1_7 a1_8 l1_9).bind fun t458 => (some t458)) else (some false))) = some r := by rw [if_pos rfl] at H; exact H
    clear H
    have H := H1
    clear H1
    replace H := Option.bind_eq_some_iff.mp H
    obtain ⟨t457, A50, H⟩ := H
    replace H : (if t457 = true then ((tree_same.f k a0_0 a0_1 a0_2 a0_3 a0_4 a0_5 a0_6 a0_7 a0_8 l0_9 a1_0 a1_1 a1_2 a1_3 a1_4 a1_5 a1_6 a1_7 a1_8 l1_9).bind fun t458 => (some t458)) else (some false)) = some r := H
    have A5 := Aside0.mk A50
    clear A50
    by_cases c6 : t457 = true
    · subst c6
      have H1 : ((tree_same.f k a0_0 a0_1 a0_2 a0_3 a0_4 a0_5 a0_6 a0_7 a0_8 l0_9 a1_0 a1_1 a1_2 a1_3 a1_4 a1_5 a1_6 a1_7 a1_8 l1_9).bind fun t458 => (some t458)) = some r := by rw [if_pos rfl] at H; exact H
      clear H
      have H := H1
      clear H1
      replace H := Option.bind_eq_some_iff.mp H
      obtain ⟨t458, A70, H⟩ := H
      replace H : (some t458) = some r := H
      have A7 := Aside0.mk A70
      clear A70
      obtain rfl := Option.some.inj H
      go_enter Tryz.func19, Tryz.ntmps19
      go_wp2_with (first | ((with_reducible refine gate_dst (N := 2) rfl ?_); refine box_event ?hg (N := 2) ?hd (cs := #[.int .i64 a0_0, .int .i64 a0_1, .int .i64 a0_2, .string a0_3, .int .i64 a0_4, .int .i64 a0_5, .int .i64 a0_6, .int .i64 a0_7, .string a0_8, .slice A0_9 l0_9.length c0_9]) (t := 31) ?hr ?_; (case hd => rfl); (case hg => rfl); (case hr => first | (go_simp; done) | (go_simp; rfl)); intro gb454 hg w8 hbox hb; have n0_ := Aside0.mk (below_step (by repeat first | with_reducible exact HB.out | apply zS | exact HB.out) hb); have n1_ := Aside0.mk (hbox); have n2_ := Aside0.mk ((by rw [hg]; exact (below_size (by repeat first | with_reducible exact HB.out | apply zS | exact HB.out)) : w.heap.size ≤ gb454)); have n3_ := n2_; clear HB; have HB := n0_; have BK454 := n1_; have GW454 := n2_; have GE454 := n3_; clear n0_ n1_ n2_ n3_; clear hb hbox hg) | ((with_reducible refine gate_dst (N := 3) rfl ?_); refine box_event ?hg (N := 3) ?hd (cs := #[.int .i64 a1_0, .int .i64 a1_1, .int .i64 a1_2, .string a1_3, .int .i64 a1_4, .int .i64 a1_5, .int .i64 a1_6, .int .i64 a1_7, .string a1_8, .slice A1_9 l1_9.length c1_9]) (t := 31) ?hr ?_; (case hd => rfl); (case hg => rfl); (case hr => first | (go_simp; done) | (go_simp; rfl)); intro gb455 hg w9 hbox hb; have n0_ := Aside0.mk (blk_below (g := gb454) (o := .cells #[.int .i64 a0_0, .int .i64 a0_1, .int .i64 a0_2, .string a0_3, .int .i64 a0_4, .int .i64 a0_5, .int .i64 a0_6, .int .i64 a0_7, .string a0_8, .slice A0_9 l0_9.length c0_9] 31 (0, 0)) (zB BK454.out) hb); have n1_ := Aside0.mk (below_step (by repeat first | with_reducible exact HB.out | apply zS | refine below_set ?_ GE454.out | exact HB.out) hb); have n2_ := Aside0.mk (hbox); have n3_ := Aside0.mk ((by rw [hg]; exact (below_size (by repeat first | with_reducible exact HB.out | apply zS | refine below_set ?_ GE454.out | exact HB.out)) : w.heap.size ≤ gb455)); have n4_ := n3_; have n5_ := Aside0.mk ((by rw [hg]; exact Nat.ne_of_lt (blk_lt (g := gb454) (o := .cells #[.int .i64 a0_0, .int .i64 a0_1, .int .i64 a0_2, .string a0_3, .int .i64 a0_4, .int .i64 a0_5, .int .i64 a0_6, .int .i64 a0_7, .string a0_8, .slice A0_9 l0_9.length c0_9] 31 (0, 0)) (zB BK454.out)) : gb454 ≠ gb455)); have n6_ := Aside0.mk ((by rw [hg]; exact Nat.ne_of_gt (blk_lt (g := gb454) (o := .cells #[.int .i64 a0_0, .int .i64 a0_1, .int .i64 a0_2, .string a0_3, .int .i64 a0_4, .int .i64 a0_5, .int .i64 a0_6, .int .i64 a0_7, .string a0_8, .slice A0_9 l0_9.length c0_9] 31 (0, 0)) (zB BK454.out)) : gb455 ≠ gb454)); clear BK454; clear HB; have BK454 := n0_; have HB := n1_; have BK455 := n2_; have GW455 := n3_; have GE455 := n4_; have NB454_455 := n5_; have NB455_454 := n6_; clear n0_ n1_ n2_ n3_ n4_ n5_ n6_; clear hb hbox hg; have hnb10 := NB454_455.out; have hnc10 := NB455_454.out; obtain ⟨hcz11_0, hcz11_1, hcz11_2, hcz11_3, hcz11_4, hcz11_5, hcz11_6, hcz11_7, hcz11_8, hcz11_9, hfz11_0, hfz11_1, hfz11_2, hfz11_3, hfz11_4, hfz11_5, hfz11_6, hfz11_7, hfz11_8, hfz11_9⟩ := zC10 BK454.out) | ((with_reducible refine gate_callee (f := 47) rfl ?_); refine goesL_ (some 6) rfl rfl Tryz.func47 (by kernel_rfl) rfl #[.agg #[.int .i64 a0_0, .int .i64 a0_1, .int .i64 a0_2, .string a0_3, .int .i64 a0_4, .int .i64 a0_5, .int .i64 a0_6, .int .i64 a0_7, .string a0_8, .slice A0_9 l0_9.length c0_9]] rfl (by (try simp only [List.map_toArray, List.map_cons, List.map_nil]); first | done | rfl | (simp only [List.length_drop, List.length_take]; rfl)) ?_; (with_reducible refine (tree_small.calls a0_0 a0_1 a0_2 a0_3 a0_4 a0_5 a0_6 a0_7 a0_8 _ _ l0_9 true _ ?side1 ?side2 A3.out).mono ?_); (case side1 => repeat (first | exact (Kd.C_below HR0_9.out HB.out) | (with_reducible refine Kd.C_alloc ?_ _) | (with_reducible refine Kd.C_drewN ?_ _) | (with_reducible refine Kd.C_drew ?_))); (case side2 => exact HC0_9.out); rintro e w12 ⟨rfl, hb⟩; refine ⟨_, rfl, ?_⟩; have n0_ := Aside0.mk (blk_below (g := gb454) (o := .cells #[.int .i64 a0_0, .int .i64 a0_1, .int .i64 a0_2, .string a0_3, .int .i64 a0_4, .int .i64 a0_5, .int .i64 a0_6, .int .i64 a0_7, .string a0_8, .slice A0_9 l0_9.length c0_9] 31 (0, 0)) (zB BK454.out) hb); have n1_ := Aside0.mk (blk_below (g := gb455) (o := .cells #[.int .i64 a1_0, .int .i64 a1_1, .int .i64 a1_2, .string a1_3, .int .i64 a1_4, .int .i64 a1_5, .int .i64 a1_6, .int .i64 a1_7, .string a1_8, .slice A1_9 l1_9.length c1_9] 31 (0, 0)) (zB BK455.out) hb); have n2_ := Aside0.mk (below_step (by repeat first | with_reducible exact HB.out | apply zS | refine below_set ?_ GE454.out | refine below_set ?_ GE455.out | exact HB.out) hb); clear BK454; clear BK455; clear HB; have BK454 := n0_; have BK455 := n1_; have HB := n2_; clear n0_ n1_ n2_; (try clear hb); (try clear hb2); (try clear hk); (try clear hi); obtain ⟨hcz13_0, hcz13_1, hcz13_2, hcz13_3, hcz13_4, hcz13_5, hcz13_6, hcz13_7, hcz13_8, hcz13_9, hfz13_0, hfz13_1, hfz13_2, hfz13_3, hfz13_4, hfz13_5, hfz13_6, hfz13_7, hfz13_8, hfz13_9⟩ := zC10 BK455.out) | (go_at_call 47; (with_reducible refine (tree_small.calls a1_0 a1_1 a1_2 a1_3 a1_4 a1_5 a1_6 a1_7 a1_8 _ _ l1_9 true _ ?side1 ?side2 A5.out).mono ?_); (case side1 => repeat (first | exact (Kd.C_below HR1_9.out HB.out) | (with_reducible refine Kd.C_alloc ?_ _) | (with_reducible refine Kd.C_drewN ?_ _) | (with_reducible refine Kd.C_drew ?_))); (case side2 => exact HC1_9.out); rintro e w14 ⟨rfl, hb⟩; have n0_ := Aside0.mk (blk_below (g := gb454) (o := .cells #[.int .i64 a0_0, .int .i64 a0_1, .int .i64 a0_2, .string a0_3, .int .i64 a0_4, .int .i64 a0_5, .int .i64 a0_6, .int .i64 a0_7, .string a0_8, .slice A0_9 l0_9.length c0_9] 31 (0, 0)) (zB BK454.out) hb); have n1_ := Aside0.mk (blk_below (g := gb455) (o := .cells #[.int .i64 a1_0, .int .i64 a1_1, .int .i64 a1_2, .string a1_3, .int .i64 a1_4, .int .i64 a1_5, .int .i64 a1_6, .int .i64 a1_7, .string a1_8, .slice A1_9 l1_9.length c1_9] 31 (0, 0)) (zB BK455.out) hb); have n2_ := Aside0.mk (below_step (by repeat first | with_reducible exact HB.out | apply zS | refine below_set ?_ GE454.out | refine below_set ?_ GE455.out | exact HB.out) hb); clear BK454; clear BK455; clear HB; have BK454 := n0_; have BK455 := n1_; have HB := n2_; clear n0_ n1_ n2_; (try clear hb); (try clear hb2); (try clear hk); (try clear hi); obtain ⟨hcz15_0, hcz15_1, hcz15_2, hcz15_3, hcz15_4, hcz15_5, hcz15_6, hcz15_7, hcz15_8, hcz15_9, hfz15_0, hfz15_1, hfz15_2, hfz15_3, hfz15_4, hfz15_5, hfz15_6, hfz15_7, hfz15_8, hfz15_9⟩ := zC10 BK454.out; obtain ⟨hcz16_0, hcz16_1, hcz16_2, hcz16_3, hcz16_4, hcz16_5, hcz16_6, hcz16_7, hcz16_8, hcz16_9, hfz16_0, hfz16_1, hfz16_2, hfz16_3, hfz16_4, hfz16_5, hfz16_6, hfz16_7, hfz16_8, hfz16_9⟩ := zC10 BK455.out) | (go_at_call 50; (with_reducible refine (tree_same.calls k a0_0 a0_1 a0_2 a0_3 a0_4 a0_5 a0_6 a0_7 a0_8 _ _ l0_9 a1_0 a1_1 a1_2 a1_3 a1_4 a1_5 a1_6 a1_7 a1_8 _ _ l1_9 t458 _ ?side1 ?side2 ?side3 ?side4 A7.out).mono ?_); (case side1 => repeat (first | exact (Kd.C_below HR0_9.out HB.out) | (with_reducible refine Kd.C_alloc ?_ _) | (with_reducible refine Kd.C_drewN ?_ _) | (with_reducible refine Kd.C_drew ?_))); (case side2 => exact HC0_9.out); (case side3 => repeat (first | exact (Kd.C_below HR1_9.out HB.out) | (with_reducible refine Kd.C_alloc ?_ _) | (with_reducible refine Kd.C_drewN ?_ _) | (with_reducible refine Kd.C_drew ?_))); (case side4 => exact HC1_9.out); rintro e w17 ⟨rfl, hb⟩; have n0_ := Aside0.mk (blk_below (g := gb454) (o := .cells #[.int .i64 a0_0, .int .i64 a0_1, .int .i64 a0_2, .string a0_3, .int .i64 a0_4, .int .i64 a0_5, .int .i64 a0_6, .int .i64 a0_7, .string a0_8, .slice A0_9 l0_9.length c0_9] 31 (0, 0)) (zB BK454.out) hb); have n1_ := Aside0.mk (blk_below (g := gb455) (o := .cells #[.int .i64 a1_0, .int .i64 a1_1, .int .i64 a1_2, .string a1_3, .int .i64 a1_4, .int .i64 a1_5, .int .i64 a1_6, .int .i64 a1_7, .string a1_8, .slice A1_9 l1_9.length c1_9] 31 (0, 0)) (zB BK455.out) hb); have n2_ := Aside0.mk (below_step (by repeat first | with_reducible exact HB.out | apply zS | refine below_set ?_ GE454.out | refine below_set ?_ GE455.out | exact HB.out) hb); clear BK454; clear BK455; clear HB; have BK454 := n0_; have BK455 := n1_; have HB := n2_; clear n0_ n1_ n2_; (try clear hb); (try clear hb2); (try clear hk); (try clear hi)))
      go_ret
      exact ⟨by first | rfl | (simp [errW_none, errW_some] <;> rfl) | (simp [*, errW_none, errW_some] <;> rfl), by repeat first | with_reducible exact HB.out | apply zS | refine below_set ?_ GE454.out | refine below_set ?_ GE455.out | exact HB.out⟩
    · replace c6 := Bool.eq_false_iff.mpr c6
      subst c6
      have H1 : (some false) = some r := by rw [if_neg (show ¬ (false = true) by decide)] at H; exact H
      clear H
      have H := H1
      clear H1
      obtain rfl := Option.some.inj H
      go_enter Tryz.func19, Tryz.ntmps19
      go_wp2_with (first | ((with_reducible refine gate_dst (N := 2) rfl ?_); refine box_event ?hg (N := 2) ?hd (cs := #[.int .i64 a0_0, .int .i64 a0_1, .int .i64 a0_2, .string a0_3, .int .i64 a0_4, .int .i64 a0_5, .int .i64 a0_6, .int .i64 a0_7, .string a0_8, .slice A0_9 l0_9.length c0_9]) (t := 31) ?hr ?_; (case hd => rfl); (case hg => rfl); (case hr => first | (go_simp; done) | (go_simp; rfl)); intro gb454 hg w18 hbox hb; have n0_ := Aside0.mk (below_step (by repeat first | with_reducible exact HB.out | apply zS | exact HB.out) hb); have n1_ := Aside0.mk (hbox); have n2_ := Aside0.mk ((by rw [hg]; exact (below_size (by repeat first | with_reducible exact HB.out | apply zS | exact HB.out)) : w.heap.size ≤ gb454)); have n3_ := n2_; clear HB; have HB := n0_; have BK454 := n1_; have GW454 := n2_; have GE454 := n3_; clear n0_ n1_ n2_ n3_; clear hb hbox hg) | ((with_reducible refine gate_dst (N := 3) rfl ?_); refine box_event ?hg (N := 3) ?hd (cs := #[.int .i64 a1_0, .int .i64 a1_1, .int .i64 a1_2, .string a1_3, .int .i64 a1_4, .int .i64 a1_5, .int .i64 a1_6, .int .i64 a1_7, .string a1_8, .slice A1_9 l1_9.length c1_9]) (t := 31) ?hr ?_; (case hd => rfl); (case hg => rfl); (case hr => first | (go_simp; done) | (go_simp; rfl)); intro gb455 hg w19 hbox hb; have n0_ := Aside0.mk (blk_below (g := gb454) (o := .cells #[.int .i64 a0_0, .int .i64 a0_1, .int .i64 a0_2, .string a0_3, .int .i64 a0_4, .int .i64 a0_5, .int .i64 a0_6, .int .i64 a0_7, .string a0_8, .slice A0_9 l0_9.length c0_9] 31 (0, 0)) (zB BK454.out) hb); have n1_ := Aside0.mk (below_step (by repeat first | with_reducible exact HB.out | apply zS | refine below_set ?_ GE454.out | exact HB.out) hb); have n2_ := Aside0.mk (hbox); have n3_ := Aside0.mk ((by rw [hg]; exact (below_size (by repeat first | with_reducible exact HB.out | apply zS | refine below_set ?_ GE454.out | exact HB.out)) : w.heap.size ≤ gb455)); have n4_ := n3_; have n5_ := Aside0.mk ((by rw [hg]; exact Nat.ne_of_lt (blk_lt (g := gb454) (o := .cells #[.int .i64 a0_0, .int .i64 a0_1, .int .i64 a0_2, .string a0_3, .int .i64 a0_4, .int .i64 a0_5, .int .i64 a0_6, .int .i64 a0_7, .string a0_8, .slice A0_9 l0_9.length c0_9] 31 (0, 0)) (zB BK454.out)) : gb454 ≠ gb455)); have n6_ := Aside0.mk ((by rw [hg]; exact Nat.ne_of_gt (blk_lt (g := gb454) (o := .cells #[.int .i64 a0_0, .int .i64 a0_1, .int .i64 a0_2, .string a0_3, .int .i64 a0_4, .int .i64 a0_5, .int .i64 a0_6, .int .i64 a0_7, .string a0_8, .slice A0_9 l0_9.length c0_9] 31 (0, 0)) (zB BK454.out)) : gb455 ≠ gb454)); clear BK454; clear HB; have BK454 := n0_; have HB := n1_; have BK455 := n2_; have GW455 := n3_; have GE455 := n4_; have NB454_455 := n5_; have NB455_454 := n6_; clear n0_ n1_ n2_ n3_ n4_ n5_ n6_; clear hb hbox hg; have hnb20 := NB454_455.out; have hnc20 := NB455_454.out; obtain ⟨hcz21_0, hcz21_1, hcz21_2, hcz21_3, hcz21_4, hcz21_5, hcz21_6, hcz21_7, hcz21_8, hcz21_9, hfz21_0, hfz21_1, hfz21_2, hfz21_3, hfz21_4, hfz21_5, hfz21_6, hfz21_7, hfz21_8, hfz21_9⟩ := zC10 BK454.out) | ((with_reducible refine gate_callee (f := 47) rfl ?_); refine goesL_ (some 6) rfl rfl Tryz.func47 (by kernel_rfl) rfl #[.agg #[.int .i64 a0_0, .int .i64 a0_1, .int .i64 a0_2, .string a0_3, .int .i64 a0_4, .int .i64 a0_5, .int .i64 a0_6, .int .i64 a0_7, .string a0_8, .slice A0_9 l0_9.length c0_9]] rfl (by (try simp only [List.map_toArray, List.map_cons, List.map_nil]); first | done | rfl | (simp only [List.length_drop, List.length_take]; rfl)) ?_; (with_reducible refine (tree_small.calls a0_0 a0_1 a0_2 a0_3 a0_4 a0_5 a0_6 a0_7 a0_8 _ _ l0_9 true _ ?side1 ?side2 A3.out).mono ?_); (case side1 => repeat (first | exact (Kd.C_below HR0_9.out HB.out) | (with_reducible refine Kd.C_alloc ?_ _) | (with_reducible refine Kd.C_drewN ?_ _) | (with_reducible refine Kd.C_drew ?_))); (case side2 => exact HC0_9.out); rintro e w22 ⟨rfl, hb⟩; refine ⟨_, rfl, ?_⟩; have n0_ := Aside0.mk (blk_below (g := gb454) (o := .cells #[.int .i64 a0_0, .int .i64 a0_1, .int .i64 a0_2, .string a0_3, .int .i64 a0_4, .int .i64 a0_5, .int .i64 a0_6, .int .i64 a0_7, .string a0_8, .slice A0_9 l0_9.length c0_9] 31 (0, 0)) (zB BK454.out) hb); have n1_ := Aside0.mk (blk_below (g := gb455) (o := .cells #[.int .i64 a1_0, .int .i64 a1_1, .int .i64 a1_2, .string a1_3, .int .i64 a1_4, .int .i64 a1_5, .int .i64 a1_6, .int .i64 a1_7, .string a1_8, .slice A1_9 l1_9.length c1_9] 31 (0, 0)) (zB BK455.out) hb); have n2_ := Aside0.mk (below_step (by repeat first | with_reducible exact HB.out | apply zS | refine below_set ?_ GE454.out | refine below_set ?_ GE455.out | exact HB.out) hb); clear BK454; clear BK455; clear HB; have BK454 := n0_; have BK455 := n1_; have HB := n2_; clear n0_ n1_ n2_; (try clear hb); (try clear hb2); (try clear hk); (try clear hi); obtain ⟨hcz23_0, hcz23_1, hcz23_2, hcz23_3, hcz23_4, hcz23_5, hcz23_6, hcz23_7, hcz23_8, hcz23_9, hfz23_0, hfz23_1, hfz23_2, hfz23_3, hfz23_4, hfz23_5, hfz23_6, hfz23_7, hfz23_8, hfz23_9⟩ := zC10 BK455.out) | (go_at_call 47; (with_reducible refine (tree_small.calls a1_0 a1_1 a1_2 a1_3 a1_4 a1_5 a1_6 a1_7 a1_8 _ _ l1_9 false _ ?side1 ?side2 A5.out).mono ?_); (case side1 => repeat (first | exact (Kd.C_below HR1_9.out HB.out) | (with_reducible refine Kd.C_alloc ?_ _) | (with_reducible refine Kd.C_drewN ?_ _) | (with_reducible refine Kd.C_drew ?_))); (case side2 => exact HC1_9.out); rintro e w24 ⟨rfl, hb⟩; have n0_ := Aside0.mk (blk_below (g := gb454) (o := .cells #[.int .i64 a0_0, .int .i64 a0_1, .int .i64 a0_2, .string a0_3, .int .i64 a0_4, .int .i64 a0_5, .int .i64 a0_6, .int .i64 a0_7, .string a0_8, .slice A0_9 l0_9.length c0_9] 31 (0, 0)) (zB BK454.out) hb); have n1_ := Aside0.mk (blk_below (g := gb455) (o := .cells #[.int .i64 a1_0, .int .i64 a1_1, .int .i64 a1_2, .string a1_3, .int .i64 a1_4, .int .i64 a1_5, .int .i64 a1_6, .int .i64 a1_7, .string a1_8, .slice A1_9 l1_9.length c1_9] 31 (0, 0)) (zB BK455.out) hb); have n2_ := Aside0.mk (below_step (by repeat first | with_reducible exact HB.out | apply zS | refine below_set ?_ GE454.out | refine below_set ?_ GE455.out | exact HB.out) hb); clear BK454; clear BK455; clear HB; have BK454 := n0_; have BK455 := n1_; have HB := n2_; clear n0_ n1_ n2_; (try clear hb); (try clear hb2); (try clear hk); (try clear hi)))
      go_ret
      exact ⟨by first | rfl | (simp [errW_none, errW_some] <;> rfl) | (simp [*, errW_none, errW_some] <;> rfl), by repeat first | with_reducible exact HB.out | apply zS | refine below_set ?_ GE454.out | refine below_set ?_ GE455.out | exact HB.out⟩
  · replace c4 := Bool.eq_false_iff.mpr c4
    subst c4
    have H1 : (some false) = some r := by rw [if_neg (show ¬ (false = true) by decide)] at H; exact H
    clear H
    have H := H1
    clear H1
    obtain rfl := Option.some.inj H
    go_enter Tryz.func19, Tryz.ntmps19
    go_wp2_with (first | ((with_reducible refine gate_dst (N := 2) rfl ?_); refine box_event ?hg (N := 2) ?hd (cs := #[.int .i64 a0_0, .int .i64 a0_1, .int .i64 a0_2, .string a0_3, .int .i64 a0_4, .int .i64 a0_5, .int .i64 a0_6, .int .i64 a0_7, .string a0_8, .slice A0_9 l0_9.length c0_9]) (t := 31) ?hr ?_; (case hd => rfl); (case hg => rfl); (case hr => first | (go_simp; done) | (go_simp; rfl)); intro gb454 hg w25 hbox hb; have n0_ := Aside0.mk (below_step (by repeat first | with_reducible exact HB.out | apply zS | exact HB.out) hb); have n1_ := Aside0.mk (hbox); have n2_ := Aside0.mk ((by rw [hg]; exact (below_size (by repeat first | with_reducible exact HB.out | apply zS | exact HB.out)) : w.heap.size ≤ gb454)); have n3_ := n2_; clear HB; have HB := n0_; have BK454 := n1_; have GW454 := n2_; have GE454 := n3_; clear n0_ n1_ n2_ n3_; clear hb hbox hg) | ((with_reducible refine gate_dst (N := 3) rfl ?_); refine box_event ?hg (N := 3) ?hd (cs := #[.int .i64 a1_0, .int .i64 a1_1, .int .i64 a1_2, .string a1_3, .int .i64 a1_4, .int .i64 a1_5, .int .i64 a1_6, .int .i64 a1_7, .string a1_8, .slice A1_9 l1_9.length c1_9]) (t := 31) ?hr ?_; (case hd => rfl); (case hg => rfl); (case hr => first | (go_simp; done) | (go_simp; rfl)); intro gb455 hg w26 hbox hb; have n0_ := Aside0.mk (blk_below (g := gb454) (o := .cells #[.int .i64 a0_0, .int .i64 a0_1, .int .i64 a0_2, .string a0_3, .int .i64 a0_4, .int .i64 a0_5, .int .i64 a0_6, .int .i64 a0_7, .string a0_8, .slice A0_9 l0_9.length c0_9] 31 (0, 0)) (zB BK454.out) hb); have n1_ := Aside0.mk (below_step (by repeat first | with_reducible exact HB.out | apply zS | refine below_set ?_ GE454.out | exact HB.out) hb); have n2_ := Aside0.mk (hbox); have n3_ := Aside0.mk ((by rw [hg]; exact (below_size (by repeat first | with_reducible exact HB.out | apply zS | refine below_set ?_ GE454.out | exact HB.out)) : w.heap.size ≤ gb455)); have n4_ := n3_; have n5_ := Aside0.mk ((by rw [hg]; exact Nat.ne_of_lt (blk_lt (g := gb454) (o := .cells #[.int .i64 a0_0, .int .i64 a0_1, .int .i64 a0_2, .string a0_3, .int .i64 a0_4, .int .i64 a0_5, .int .i64 a0_6, .int .i64 a0_7, .string a0_8, .slice A0_9 l0_9.length c0_9] 31 (0, 0)) (zB BK454.out)) : gb454 ≠ gb455)); have n6_ := Aside0.mk ((by rw [hg]; exact Nat.ne_of_gt (blk_lt (g := gb454) (o := .cells #[.int .i64 a0_0, .int .i64 a0_1, .int .i64 a0_2, .string a0_3, .int .i64 a0_4, .int .i64 a0_5, .int .i64 a0_6, .int .i64 a0_7, .string a0_8, .slice A0_9 l0_9.length c0_9] 31 (0, 0)) (zB BK454.out)) : gb455 ≠ gb454)); clear BK454; clear HB; have BK454 := n0_; have HB := n1_; have BK455 := n2_; have GW455 := n3_; have GE455 := n4_; have NB454_455 := n5_; have NB455_454 := n6_; clear n0_ n1_ n2_ n3_ n4_ n5_ n6_; clear hb hbox hg; have hnb27 := NB454_455.out; have hnc27 := NB455_454.out; obtain ⟨hcz28_0, hcz28_1, hcz28_2, hcz28_3, hcz28_4, hcz28_5, hcz28_6, hcz28_7, hcz28_8, hcz28_9, hfz28_0, hfz28_1, hfz28_2, hfz28_3, hfz28_4, hfz28_5, hfz28_6, hfz28_7, hfz28_8, hfz28_9⟩ := zC10 BK454.out) | ((with_reducible refine gate_callee (f := 47) rfl ?_); refine goesL_ (some 6) rfl rfl Tryz.func47 (by kernel_rfl) rfl #[.agg #[.int .i64 a0_0, .int .i64 a0_1, .int .i64 a0_2, .string a0_3, .int .i64 a0_4, .int .i64 a0_5, .int .i64 a0_6, .int .i64 a0_7, .string a0_8, .slice A0_9 l0_9.length c0_9]] rfl (by (try simp only [List.map_toArray, List.map_cons, List.map_nil]); first | done | rfl | (simp only [List.length_drop, List.length_take]; rfl)) ?_; (with_reducible refine (tree_small.calls a0_0 a0_1 a0_2 a0_3 a0_4 a0_5 a0_6 a0_7 a0_8 _ _ l0_9 false _ ?side1 ?side2 A3.out).mono ?_); (case side1 => repeat (first | exact (Kd.C_below HR0_9.out HB.out) | (with_reducible refine Kd.C_alloc ?_ _) | (with_reducible refine Kd.C_drewN ?_ _) | (with_reducible refine Kd.C_drew ?_))); (case side2 => exact HC0_9.out); rintro e w29 ⟨rfl, hb⟩; refine ⟨_, rfl, ?_⟩; have n0_ := Aside0.mk (blk_below (g := gb454) (o := .cells #[.int .i64 a0_0, .int .i64 a0_1, .int .i64 a0_2, .string a0_3, .int .i64 a0_4, .int .i64 a0_5, .int .i64 a0_6, .int .i64 a0_7, .string a0_8, .slice A0_9 l0_9.length c0_9] 31 (0, 0)) (zB BK454.out) hb); have n1_ := Aside0.mk (blk_below (g := gb455) (o := .cells #[.int .i64 a1_0, .int .i64 a1_1, .int .i64 a1_2, .string a1_3, .int .i64 a1_4, .int .i64 a1_5, .int .i64 a1_6, .int .i64 a1_7, .string a1_8, .slice A1_9 l1_9.length c1_9] 31 (0, 0)) (zB BK455.out) hb); have n2_ := Aside0.mk (below_step (by repeat first | with_reducible exact HB.out | apply zS | refine below_set ?_ GE454.out | refine below_set ?_ GE455.out | exact HB.out) hb); clear BK454; clear BK455; clear HB; have BK454 := n0_; have BK455 := n1_; have HB := n2_; clear n0_ n1_ n2_; (try clear hb); (try clear hb2); (try clear hk); (try clear hi)))
    go_ret
    exact ⟨by first | rfl | (simp [errW_none, errW_some] <;> rfl) | (simp [*, errW_none, errW_some] <;> rfl), by repeat first | with_reducible exact HB.out | apply zS | refine below_set ?_ GE454.out | refine below_set ?_ GE455.out | exact HB.out⟩
end Go.Proofs.YtpcnaoipenclnaaGreatDoor.P

namespace Go.Proofs.YtpcnaoipenclnaaGreatDoor.P
open Go.RowKit Go.Proofs.YtpcnaoipenclnaaGreatDoorW.PrintWords Go.Proofs.YtpcnaoipenclnaaGreatDoorW.PrintLast Go.Proofs.YtpcnaoipenclnaaGreatDoorW.PrintMore
attribute [local go_sem] max2_int min2_int max_two min_two max_three min_three max_four min_four   -- for this text's walks alone
set_option linter.unusedVariables false
set_option linter.unusedSimpArgs false
def pannierlaw05_TreeGood.f (k : Nat) (a0 : ByteArray) : Option (Bool) := if (a0.size : Int) > 290 then ((pannierlaw05_wakes.f k).bind fun t459 => (some t459)) else ((tree_Parse.f k a0).bind fun bt460 => (if 1 + a0.size ≤ 9223372036854775807 then (if ((⟨#[40]⟩ : ByteArray) ++ a0).size + 1 ≤ 9223372036854775807 then ((tree_Parse.f k (((⟨#[40]⟩ : ByteArray) ++ a0) ++ (⟨#[41]⟩ : ByteArray))).bind fun bt475 => (if bt460.2.2.2.2.2.2.2.2.2.2.2 = 0 then (if bt475.2.2.2.2.2.2.2.2.2.2.2 = 14 then ((tree_Good.f k bt460.1 bt460.2.1 bt460.2.2.1 bt460.2.2.2.1 bt460.2.2.2.2.1 bt460.2.2.2.2.2.1 bt460.2.2.2.2.2.2.1 bt460.2.2.2.2.2.2.2.1 bt460.2.2.2.2.2.2.2.2.1 bt460.2.2.2.2.2.2.2.2.2.1).bind fun t493 => (if t493 = true then ((pannierlaw05_wakes.f k).bind fun t494 => (some t494)) else (none))) else (if bt460.2.2.2.2.2.2.2.2.2.2.1 = 0 then (if bt475.2.2.2.2.2.2.2.2.2.2.1 = 0 then (if bt475.2.2.2.2.2.2.2.2.2.2.2 = 0 then ((tree_Good.f k bt460.1 bt460.2.1 bt460.2.2.1 bt460.2.2.2.1 bt460.2.2.2.2.1 bt460.2.2.2.2.2.1 bt460.2.2.2.2.2.2.1 bt460.2.2.2.2.2.2.2.1 bt460.2.2.2.2.2.2.2.2.1 bt460.2.2.2.2.2.2.2.2.2.1).bind fun t495 => (if t495 = true then ((tree_Depth.f k bt460.1 bt460.2.1 bt460.2.2.1 bt460.2.2.2.1 bt460.2.2.2.2.1 bt460.2.2.2.2.2.1 bt460.2.2.2.2.2.2.1 bt460.2.2.2.2.2.2.2.1 bt460.2.2.2.2.2.2.2.2.1 bt460.2.2.2.2.2.2.2.2.2.1).bind fun t496 => (if t496 ≤ 16 then ((tree_Same.f k bt460.1 bt460.2.1 bt460.2.2.1 bt460.2.2.2.1 bt460.2.2.2.2.1 bt460.2.2.2.2.2.1 bt460.2.2.2.2.2.2.1 bt460.2.2.2.2.2.2.2.1 bt460.2.2.2.2.2.2.2.2.1 bt460.2.2.2.2.2.2.2.2.2.1 bt475.1 bt475.2.1 bt475.2.2.1 bt475.2.2.2.1 bt475.2.2.2.2.1 bt475.2.2.2.2.2.1 bt475.2.2.2.2.2.2.1 bt475.2.2.2.2.2.2.2.1 bt475.2.2.2.2.2.2.2.2.1 bt475.2.2.2.2.2.2.2.2.2.1).bind fun t497 => (if t497 = true then ((pannierlaw05_wakes.f k).bind fun t498 => (some t498)) else (none))) else (none))) else (none))) else (none)) else (none)) else (none))) else (if bt460.1 = 0 then (if (bt460.2.2.2.2.2.2.2.2.2.1.length : Int) = 0 then (if bt460.2.2.2.2.2.2.2.2.2.2.2 = 14 then ((pannierlaw05_wakes.f k).bind fun t490 => (some t490)) else (if bt475.2.2.2.2.2.2.2.2.2.2.2 = 0 then (if bt460.2.2.2.2.2.2.2.2.2.2.1 ≥ 0 then ((pannierlaw05_wakes.f k).bind fun t491 => (some t491)) else (none)) else ((pannierlaw05_wakes.f k).bind fun t492 => (some t492)))) else (none)) else (none)))) else (none)) else (none)))
theorem zP10 {v : World} {g : Nat} {t : TypeId} {b0 b1 b2 b3 b4 b5 b6 b7 b8 b9 : Value} (h : v.heap[g]? = some (.cells #[b0, b1, b2, b3, b4, b5, b6, b7, b8, b9] t (0, 0))) {a0 a1 a2 a3 a4 a5 a6 a7 a8 a9 : Value} : ((((((((((v.setCell ⟨g, 0, none⟩ a0).setCell ⟨g, 1, none⟩ a1).setCell ⟨g, 2, none⟩ a2).setCell ⟨g, 3, none⟩ a3).setCell ⟨g, 4, none⟩ a4).setCell ⟨g, 5, none⟩ a5).setCell ⟨g, 6, none⟩ a6).setCell ⟨g, 7, none⟩ a7).setCell ⟨g, 8, none⟩ a8).setCell ⟨g, 9, none⟩ a9).heap[g]? = some (.cells #[a0, a1, a2, a3, a4, a5, a6, a7, a8, a9] t (0, 0)) := put10_blk h a0 a1 a2 a3 a4 a5 a6 a7 a8 a9
theorem qS6_1 {p q : Prop} (h0 : p) (h : p → q := by intro h_; repeat first | with_reducible exact h_ | apply zS | exact h_) : q := h h0
theorem qS6_2 {p q : Prop} (h0 : p) (h : p → q := by intro h_; repeat first | with_reducible exact h_ | apply zS | refine below_set ?_ GE474.out | exact h_) : q := h h0
theorem qS6_3 {p q : Prop} (h0 : p) (h : p → q := by intro h_; repeat first | with_reducible exact h_ | apply zS | refine below_set ?_ GE474.out | refine below_set ?_ GE489.out | exact h_) : q := h h0
set_option maxHeartbeats 8000000 in
set_option maxRecDepth 100000 in
theorem pannierlaw05_TreeGood.calls (k : Nat) (a0 : ByteArray) (r : Bool) (w : World) (hG : G4 w) (h : pannierlaw05_TreeGood.f k a0 = some r) :
    Calls Tryz.prog 6 #[.string a0] w fun e w' => e = .returned (.bool r) ∧ Below w.heap.size w w' := by
  have hu31 := Tryz.underlying31
  have HB := Aside0.mk (Below.refl w.heap.size w)
  have H : (if (a0.size : Int) > 290 then ((pannierlaw05_wakes.f k).bind fun t459 => (some t459)) else ((tree_Parse.f k a0).bind fun bt460 => (if 1 + a0.size ≤ 9223372036854775807 then (if ((⟨#[40]⟩ : ByteArray) ++ a0).size + 1 ≤ 9223372036854775807 then ((tree_Parse.f k (((⟨#[40]⟩ : ByteArray) ++ a0) ++ (⟨#[41]⟩ : ByteArray))).bind fun bt475 => (if bt460.2.2.2.2.2.2.2.2.2.2.2 = 0 then (if bt475.2.2.2.2.2.2.2.2.2.2.2 = 14 then ((tree_Good.f k bt460.1 bt460.2.1 bt460.2.2.1 bt460.2.2.2.1 bt460.2.2.2.2.1 bt460.2.2.2.2.2.1 bt460.2.2.2.2.2.2.1 bt460.2.2.2.2.2.2.2.1 bt460.2.2.2.2.2.2.2.2.1 bt460.2.2.2.2.2.2.2.2.2.1).bind fun t493 => (if t493 = true then ((pannierlaw05_wakes.f k).bind fun t494 => (some t494)) else (none))) else (if bt460.2.2.2.2.2.2.2.2.2.2.1 = 0 then (if bt475.2.2.2.2.2.2.2.2.2.2.1 = 0 then (if bt475.2.2.2.2.2.2.2.2.2.2.2 = 0 then ((tree_Good.f k bt460.1 bt460.2.1 bt460.2.2.1 bt460.2.2.2.1 bt460.2.2.2.2.1 bt460.2.2.2.2.2.1 bt460.2.2.2.2.2.2.1 bt460.2.2.2.2.2.2.2.1 bt460.2.2.2.2.2.2.2.2.1 bt460.2.2.2.2.2.2.2.2.2.1).bind fun t495 => (if t495 = true then ((tree_Depth.f k bt460.1 bt460.2.1 bt460.2.2.1 bt460.2.2.2.1 bt460.2.2.2.2.1 bt460.2.2.2.2.2.1 bt460.2.2.2.2.2.2.1 bt460.2.2.2.2.2.2.2.1 bt460.2.2.2.2.2.2.2.2.1 bt460.2.2.2.2.2.2.2.2.2.1).bind fun t496 => (if t496 ≤ 16 then ((tree_Same.f k bt460.1 bt460.2.1 bt460.2.2.1 bt460.2.2.2.1 bt460.2.2.2.2.1 bt460.2.2.2.2.2.1 bt460.2.2.2.2.2.2.1 bt460.2.2.2.2.2.2.2.1 bt460.2.2.2.2.2.2.2.2.1 bt460.2.2.2.2.2.2.2.2.2.1 bt475.1 bt475.2.1 bt475.2.2.1 bt475.2.2.2.1 bt475.2.2.2.2.1 bt475.2.2.2.2.2.1 bt475.2.2.2.2.2.2.1 bt475.2.2.2.2.2.2.2.1 bt475.2.2.2.2.2.2.2.2.1 bt475.2.2.2.2.2.2.2.2.2.1).bind fun t497 => (if t497 = true then ((pannierlaw05_wakes.f k).bind fun t498 => (some t498)) else (none))) else (none))) else (none))) else (none)) else (none)) else (none))) else (if bt460.1 = 0 then (if (bt460.2.2.2.2.2.2.2.2.2.1.length : Int) = 0 then (if bt460.2.2.2.2.2.2.2.2.2.2.2 = 14 then ((pannierlaw05_wakes.f k).bind fun t490 => (some t490)) else (if bt475.2.2.2.2.2.2.2.2.2.2.2 = 0 then (if bt460.2.2.2.2.2.2.2.2.2.2.1 ≥ 0 then ((pannierlaw05_wakes.f k).bind fun t491 => (some t491)) else (none)) else ((pannierlaw05_wakes.f k).bind fun t492 => (some t492)))) else (none)) else (none)))) else (none)) else (none)))) = some r := h
  clear h
  by_cases c2 : (a0.size : Int) > 290
  · rw [if_pos c2] at H
    have c2b0 : decide (290 < (a0.size : Int)) = true := decide_eq_true c2
    have c2b1 : decide (290 < a0.size) = true := decide_eq_true (by omega)
    clear c2
    replace H := Option.bind_eq_some_iff.mp H
    obtain ⟨t459, A30, H⟩ := H
    replace H : (some t459) = some r := H
    have A3 := Aside0.mk A30
    clear A30
    obtain rfl := Option.some.inj H
    go_enter Tryz.func6, Tryz.ntmps6
    go_wp2_with (first | ((with_reducible refine gate_callee (f := 13) rfl ?_); refine goesL_ (some 12) rfl rfl Tryz.func13 (by kernel_rfl) rfl #[] rfl (by (try simp only [List.map_toArray, List.map_cons, List.map_nil]); first | done | rfl | (simp only [List.length_drop, List.length_take]; rfl)) ?_; (with_reducible refine (pannierlaw05_wakes.calls k  t459 _ ?side1 A3.out).mono ?_); (case side1 => exact gl_4_4 (qS6_1 HB.out) hG); rintro e w4 ⟨rfl, hb⟩; refine ⟨_, rfl, ?_⟩; have n0_ := Aside0.mk (below_step (qS6_1 HB.out) hb); clear HB; have HB := n0_; clear n0_; (try clear hb); (try clear hb2); (try clear hk); (try clear hi)))
    go_ret
    exact ⟨by first | rfl | (simp [errW_none, errW_some] <;> rfl) | (simp [*, errW_none, errW_some] <;> rfl), by repeat first | with_reducible exact HB.out | apply zS | exact HB.out⟩
  · rw [if_neg c2] at H
    have c2b0 : decide (290 < (a0.size : Int)) = false := decide_eq_false c2
    have c2b1 : decide (290 < a0.size) = false := decide_eq_false (by omega)
    clear c2
    replace H := Option.bind_eq_some_iff.mp H
    obtain ⟨⟨t460, t461, t462, t463, t464, t465, t466, t467, t468, t469, t472, t473⟩, A50, H⟩ := H
    replace H : (if 1 + a0.size ≤ 9223372036854775807 then (if ((⟨#[40]⟩ : ByteArray) ++ a0).size + 1 ≤ 9223372036854775807 then ((tree_Parse.f k (((⟨#[40]⟩ : ByteArray) ++ a0) ++ (⟨#[41]⟩ : ByteArray))).bind fun bt475 => (if t473 = 0 then (if bt475.2.2.2.2.2.2.2.2.2.2.2 = 14 then ((tree_Good.f k t460 t461 t462 t463 t464 t465 t466 t467 t468 t469).bind fun t493 => (if t493 = true then ((pannierlaw05_wakes.f k).bind fun t494 => (some t494)) else (none))) else (if t472 = 0 then (if bt475.2.2.2.2.2.2.2.2.2.2.1 = 0 then (if bt475.2.2.2.2.2.2.2.2.2.2.2 = 0 then ((tree_Good.f k t460 t461 t462 t463 t464 t465 t466 t467 t468 t469).bind fun t495 => (if t495 = true then ((tree_Depth.f k t460 t461 t462 t463 t464 t465 t466 t467 t468 t469).bind fun t496 => (if t496 ≤ 16 then ((tree_Same.f k t460 t461 t462 t463 t464 t465 t466 t467 t468 t469 bt475.1 bt475.2.1 bt475.2.2.1 bt475.2.2.2.1 bt475.2.2.2.2.1 bt475.2.2.2.2.2.1 bt475.2.2.2.2.2.2.1 bt475.2.2.2.2.2.2.2.1 bt475.2.2.2.2.2.2.2.2.1 bt475.2.2.2.2.2.2.2.2.2.1).bind fun t497 => (if t497 = true then ((pannierlaw05_wakes.f k).bind fun t498 => (some t498)) else (none))) else (none))) else (none))) else (none)) else (none)) else (none))) else (if t460 = 0 then (if (t469.length : Int) = 0 then (if t473 = 14 then ((pannierlaw05_wakes.f k).bind fun t490 => (some t490)) else (if bt475.2.2.2.2.2.2.2.2.2.2.2 = 0 then (if t472 ≥ 0 then ((pannierlaw05_wakes.f k).bind fun t491 => (some t491)) else (none)) else ((pannierlaw05_wakes.f k).bind fun t492 => (some t492)))) else (none)) else (none)))) else (none)) else (none)) = some r := H
    have A5 := Aside0.mk A50
    clear A50
    by_cases c6 : 1 + a0.size ≤ 9223372036854775807
    · rw [if_pos c6] at H
      have c6b0 := eq_true c6
      have c6b1 : decide (1 + a0.size ≤ 9223372036854775807) = true := decide_eq_true c6
      try have c6b2 : (9223372036854775807 < 1 + a0.size) = False := eq_false (Nat.not_lt.2 c6)
      by_cases c7 : ((⟨#[40]⟩ : ByteArray) ++ a0).size + 1 ≤ 9223372036854775807
      · rw [if_pos c7] at H
        have c7b0 := eq_true c7
        have c7b1 : decide (((⟨#[40]⟩ : ByteArray) ++ a0).size + 1 ≤ 9223372036854775807) = true := decide_eq_true c7
        try have c7b2 : (9223372036854775807 < ((⟨#[40]⟩ : ByteArray) ++ a0).size + 1) = False := eq_false (Nat.not_lt.2 c7)
        try have c7x9 : (9223372036854775807 < 1 + a0.size + 1) = False := by have z_ := c7b2; simp only [ByteArray.size_append] at z_; exact z_
        replace H := Option.bind_eq_some_iff.mp H
        obtain ⟨⟨t475, t476, t477, t478, t479, t480, t481, t482, t483, t484, t487, t488⟩, A80, H⟩ := H
        replace H : (if t473 = 0 then (if t488 = 14 then ((tree_Good.f k t460 t461 t462 t463 t464 t465 t466 t467 t468 t469).bind fun t493 => (if t493 = true then ((pannierlaw05_wakes.f k).bind fun t494 => (some t494)) else (none))) else (if t472 = 0 then (if t487 = 0 then (if t488 = 0 then ((tree_Good.f k t460 t461 t462 t463 t464 t465 t466 t467 t468 t469).bind fun t495 => (if t495 = true then ((tree_Depth.f k t460 t461 t462 t463 t464 t465 t466 t467 t468 t469).bind fun t496 => (if t496 ≤ 16 then ((tree_Same.f k t460 t461 t462 t463 t464 t465 t466 t467 t468 t469 t475 t476 t477 t478 t479 t480 t481 t482 t483 t484).bind fun t497 => (if t497 = true then ((pannierlaw05_wakes.f k).bind fun t498 => (some t498)) else (none))) else (none))) else (none))) else (none)) else (none)) else (none))) else (if t460 = 0 then (if (t469.length : Int) = 0 then (if t473 = 14 then ((pannierlaw05_wakes.f k).bind fun t490 => (some t490)) else (if t488 = 0 then (if t472 ≥ 0 then ((pannierlaw05_wakes.f k).bind fun t491 => (some t491)) else (none)) else ((pannierlaw05_wakes.f k).bind fun t492 => (some t492)))) else (none)) else (none))) = some r := H
        have A8 := Aside0.mk A80
        clear A80
        by_cases c9 : t473 = 0
        · rw [if_pos c9] at H
          have c9b0 : (t473 == 0) = true := beq_iff_eq.mpr c9
          have c9b1 : (t473 != 0) = false := bne_eq_false_iff_eq.mpr c9
          clear c9
          by_cases c10 : t488 = 14
          · rw [if_pos c10] at H
            have c10b0 : (t488 == 14) = true := beq_iff_eq.mpr c10
            have c10b1 : (t488 != 14) = false := bne_eq_false_iff_eq.mpr c10
            clear c10
            replace H := Option.bind_eq_some_iff.mp H
            obtain ⟨t493, A110, H⟩ := H
            replace H : (if t493 = true then ((pannierlaw05_wakes.f k).bind fun t494 => (some t494)) else (none)) = some r := H
            have A11 := Aside0.mk A110
            clear A110
            by_cases c12 : t493 = true
            · subst c12
              have H1 : ((pannierlaw05_wakes.f k).bind fun t494 => (some t494)) = some r := by rw [if_pos rfl] at H; exact H
              clear H
              have H := H1
              clear H1
              replace H := Option.bind_eq_some_iff.mp H
              obtain ⟨t494, A130, H⟩ := H
              replace H : (some t494) = some r := H
              have A13 := Aside0.mk A130
              clear A130
              obtain rfl := Option.some.inj H
              go_enter Tryz.func6, Tryz.ntmps6
              go_wp2_with (first | ((with_reducible refine gate_callee (f := 14) rfl ?_); refine goesL_ (some 15) rfl rfl Tryz.func14 (by kernel_rfl) rfl #[.string a0] rfl (by (try simp only [List.map_toArray, List.map_cons, List.map_nil]); first | done | rfl | (simp only [List.length_drop, List.length_take]; rfl)) ?_; (with_reducible refine (tree_Parse.calls k a0 t460 t461 t462 t463 t464 t465 t466 t467 t468 t469 t472 t473 _ ?side1 A5.out).mono ?_); (case side1 => exact gl_4_4 (qS6_1 HB.out) hG); rintro e w14 ⟨v470, rfl, ho0, hb⟩; refine ⟨_, rfl, ?_⟩; have n0_ := Aside0.mk (Kd.V_lower (Kd.V_mono (ok' := fun k_ => True) ho0 (fun k_ hk_ => trivial)) (below_size (qS6_1 HB.out))); have n1_ := Aside0.mk (below_step (qS6_1 HB.out) hb); clear HB; have HO471 := n0_; have HB := n1_; clear n0_ n1_; (try clear hb); (try clear hb2); (try clear hk); (try clear hi); (try clear ho0)) | ((with_reducible refine gate_dst (N := 3) rfl ?_); (try (refine gate_guard (by rfl) ?_; dsimp only)); refine box_event ?hg (N := 3) ?hd (cs := #[.int .i64 0, .int .i64 0, .int .i64 0, .string (⟨#[]⟩ : ByteArray), .int .i64 0, .int .i64 0, .int .i64 0, .int .i64 0, .string (⟨#[]⟩ : ByteArray), .slice none 0 0]) (t := 31) ?hr ?_; (case hd => rfl); (case hg => rfl); (case hr => first | (go_simp; done) | (go_simp; rfl)); intro gb474 hg w15 hbox hb; have n0_ := Aside0.mk (Kd.V_below (Kd.V_elderB (by (with_reducible repeat (first | apply Kd.V_alloc | apply Kd.V_drewN | apply Kd.V_drew)); exact HO471.out) gb474 (Nat.le_of_eq hg.symm)) hb); have n1_ := Aside0.mk (below_step (qS6_1 HB.out) hb); have n2_ := Aside0.mk (hbox); have n3_ := Aside0.mk ((by rw [hg]; exact (below_size (qS6_1 HB.out)) : w.heap.size ≤ gb474)); have n4_ := n3_; clear HO471; clear HB; have HO471 := n0_; have HB := n1_; have BK474 := n2_; have GW474 := n3_; have GE474 := n4_; clear n0_ n1_ n2_ n3_ n4_; clear hb hbox hg; obtain ⟨hcz16_0, hcz16_1, hcz16_2, hcz16_3, hcz16_4, hcz16_5, hcz16_6, hcz16_7, hcz16_8, hcz16_9, hfz16_0, hfz16_1, hfz16_2, hfz16_3, hfz16_4, hfz16_5, hfz16_6, hfz16_7, hfz16_8, hfz16_9⟩ := zC10 BK474.out; obtain ⟨Ao17, co17, eo17⟩ := Kd.V_slice HO471.out; subst eo17) | ((with_reducible refine gate_callee (f := 14) rfl ?_); refine goesL_ (some 23) rfl rfl Tryz.func14 (by kernel_rfl) rfl #[.string (((⟨#[40]⟩ : ByteArray) ++ a0) ++ (⟨#[41]⟩ : ByteArray))] rfl (by (try simp only [List.map_toArray, List.map_cons, List.map_nil]); first | done | rfl | (simp only [List.length_drop, List.length_take]; rfl)) ?_; (with_reducible refine (tree_Parse.calls k (((⟨#[40]⟩ : ByteArray) ++ a0) ++ (⟨#[41]⟩ : ByteArray)) t475 t476 t477 t478 t479 t480 t481 t482 t483 t484 t487 t488 _ ?side1 A8.out).mono ?_); (case side1 => exact gl_4_4 (qS6_2 HB.out) hG); rintro e w18 ⟨v485, rfl, ho0, hb⟩; refine ⟨_, rfl, ?_⟩; have n0_ := Aside0.mk (Kd.V_below (by (with_reducible repeat (first | apply Kd.V_alloc | apply Kd.V_drewN | apply Kd.V_drew)); exact (Kd.V_mono (Kd.V_far (p := ⟨gb474, 9, none⟩) (Kd.V_far (p := ⟨gb474, 8, none⟩) (Kd.V_far (p := ⟨gb474, 7, none⟩) (Kd.V_far (p := ⟨gb474, 6, none⟩) (Kd.V_far (p := ⟨gb474, 5, none⟩) (Kd.V_far (p := ⟨gb474, 4, none⟩) (Kd.V_far (p := ⟨gb474, 3, none⟩) (Kd.V_far (p := ⟨gb474, 2, none⟩) (Kd.V_far (p := ⟨gb474, 1, none⟩) (Kd.V_far (p := ⟨gb474, 0, none⟩) (Kd.V_mono HO471.out (fun k_ hk => (⟨hk, hk.2⟩ : _ ∧ k_ ≠ gb474))) (fun _ hk => hk.2) (.int .i64 t460)) (fun _ hk => hk.2) (.int .i64 t461)) (fun _ hk => hk.2) (.int .i64 t462)) (fun _ hk => hk.2) (.string t463)) (fun _ hk => hk.2) (.int .i64 t464)) (fun _ hk => hk.2) (.int .i64 t465)) (fun _ hk => hk.2) (.int .i64 t466)) (fun _ hk => hk.2) (.int .i64 t467)) (fun _ hk => hk.2) (.string t468)) (fun _ hk => hk.2) (.slice Ao17 t469.length co17)) (fun _ h_ => h_.1))) hb); have n1_ := Aside0.mk (Kd.V_lower (Kd.V_mono (ok' := fun k_ => k_ ≠ gb474) ho0 (fun k_ hk_ => (Kd.freshB (g := gb474) (o := .cells #[.int .i64 t460, .int .i64 t461, .int .i64 t462, .string t463, .int .i64 t464, .int .i64 t465, .int .i64 t466, .int .i64 t467, .string t468, .slice Ao17 t469.length co17] 31 (0, 0)) (by exact zB (zP10 (zB BK474.out))) k_ hk_))) (below_size (qS6_2 HB.out))); have n2_ := Aside0.mk (blk_below (g := gb474) (o := .cells #[.int .i64 t460, .int .i64 t461, .int .i64 t462, .string t463, .int .i64 t464, .int .i64 t465, .int .i64 t466, .int .i64 t467, .string t468, .slice Ao17 t469.length co17] 31 (0, 0)) (by exact zB (zP10 (zB BK474.out))) hb); have n3_ := Aside0.mk (below_step (qS6_2 HB.out) hb); clear HO471; clear BK474; clear HB; have HO471 := n0_; have HO486 := n1_; have BK474 := n2_; have HB := n3_; clear n0_ n1_ n2_ n3_; (try clear hb); (try clear hb2); (try clear hk); (try clear hi); (try clear ho0)) | ((with_reducible refine gate_dst (N := 6) rfl ?_); (try (refine gate_guard (by rfl) ?_; dsimp only)); refine box_event ?hg (N := 6) ?hd (cs := #[.int .i64 0, .int .i64 0, .int .i64 0, .string (⟨#[]⟩ : ByteArray), .int .i64 0, .int .i64 0, .int .i64 0, .int .i64 0, .string (⟨#[]⟩ : ByteArray), .slice none 0 0]) (t := 31) ?hr ?_; (case hd => rfl); (case hg => rfl); (case hr => first | (go_simp; done) | (go_simp; rfl)); intro gb489 hg w19 hbox hb; have n0_ := Aside0.mk (Kd.V_below (Kd.V_elderB (by (with_reducible repeat (first | apply Kd.V_alloc | apply Kd.V_drewN | apply Kd.V_drew)); exact HO471.out) gb489 (Nat.le_of_eq hg.symm)) hb); have n1_ := Aside0.mk (Kd.V_below (Kd.V_elderB (by (with_reducible repeat (first | apply Kd.V_alloc | apply Kd.V_drewN | apply Kd.V_drew)); exact HO486.out) gb489 (Nat.le_of_eq hg.symm)) hb); have n2_ := Aside0.mk (blk_below (g := gb474) (o := .cells #[.int .i64 t460, .int .i64 t461, .int .i64 t462, .string t463, .int .i64 t464, .int .i64 t465, .int .i64 t466, .int .i64 t467, .string t468, .slice Ao17 t469.length co17] 31 (0, 0)) (zB BK474.out) hb); have n3_ := Aside0.mk (below_step (qS6_2 HB.out) hb); have n4_ := Aside0.mk (hbox); have n5_ := Aside0.mk ((by rw [hg]; exact (below_size (qS6_2 HB.out)) : w.heap.size ≤ gb489)); have n6_ := n5_; have n7_ := Aside0.mk ((by rw [hg]; exact Nat.ne_of_lt (blk_lt (g := gb474) (o := .cells #[.int .i64 t460, .int .i64 t461, .int .i64 t462, .string t463, .int .i64 t464, .int .i64 t465, .int .i64 t466, .int .i64 t467, .string t468, .slice Ao17 t469.length co17] 31 (0, 0)) (zB BK474.out)) : gb474 ≠ gb489)); have n8_ := Aside0.mk ((by rw [hg]; exact Nat.ne_of_gt (blk_lt (g := gb474) (o := .cells #[.int .i64 t460, .int .i64 t461, .int .i64 t462, .string t463, .int .i64 t464, .int .i64 t465, .int .i64 t466, .int .i64 t467, .string t468, .slice Ao17 t469.length co17] 31 (0, 0)) (zB BK474.out)) : gb489 ≠ gb474)); clear HO471; clear HO486; clear BK474; clear HB; have HO471 := n0_; have HO486 := n1_; have BK474 := n2_; have HB := n3_; have BK489 := n4_; have GW489 := n5_; have GE489 := n6_; have NB474_489 := n7_; have NB489_474 := n8_; clear n0_ n1_ n2_ n3_ n4_ n5_ n6_ n7_ n8_; clear hb hbox hg; have hnb20 := NB489_474.out; have hnc20 := NB474_489.out; obtain ⟨hcz21_0, hcz21_1, hcz21_2, hcz21_3, hcz21_4, hcz21_5, hcz21_6, hcz21_7, hcz21_8, hcz21_9, hfz21_0, hfz21_1, hfz21_2, hfz21_3, hfz21_4, hfz21_5, hfz21_6, hfz21_7, hfz21_8, hfz21_9⟩ := zC10 BK489.out; obtain ⟨Ao22, co22, eo22⟩ := Kd.V_slice HO486.out; subst eo22; obtain ⟨hcz23_0, hcz23_1, hcz23_2, hcz23_3, hcz23_4, hcz23_5, hcz23_6, hcz23_7, hcz23_8, hcz23_9, hfz23_0, hfz23_1, hfz23_2, hfz23_3, hfz23_4, hfz23_5, hfz23_6, hfz23_7, hfz23_8, hfz23_9⟩ := zC10 BK474.out) | ((with_reducible refine gate_callee (f := 17) rfl ?_); refine goesL_ (some 56) rfl rfl Tryz.func17 (by kernel_rfl) rfl #[.agg #[.int .i64 t460, .int .i64 t461, .int .i64 t462, .string t463, .int .i64 t464, .int .i64 t465, .int .i64 t466, .int .i64 t467, .string t468, .slice Ao17 t469.length co17]] rfl (by (try simp only [List.map_toArray, List.map_cons, List.map_nil]); first | done | rfl | (simp only [List.length_drop, List.length_take]; rfl)) ?_; (with_reducible refine (tree_Good.calls k t460 t461 t462 t463 t464 t465 t466 t467 t468 _ _ t469 true _ ?side1 ?side2 A11.out).mono ?_); (case side1 => refine (Kd.V_reads' (e := 31) (base := w.heap.size) (ok := fun k_ => ((True ∧ k_ ≠ gb474) ∧ k_ ≠ gb489)) (n := t469.length) (c := co17) ?_).2.2; exact (by (with_reducible repeat (first | apply Kd.V_alloc | apply Kd.V_drewN | apply Kd.V_drew)); exact (Kd.V_mono (Kd.V_far (p := ⟨gb489, 9, none⟩) (Kd.V_far (p := ⟨gb489, 8, none⟩) (Kd.V_far (p := ⟨gb489, 7, none⟩) (Kd.V_far (p := ⟨gb489, 6, none⟩) (Kd.V_far (p := ⟨gb489, 5, none⟩) (Kd.V_far (p := ⟨gb489, 4, none⟩) (Kd.V_far (p := ⟨gb489, 3, none⟩) (Kd.V_far (p := ⟨gb489, 2, none⟩) (Kd.V_far (p := ⟨gb489, 1, none⟩) (Kd.V_far (p := ⟨gb489, 0, none⟩) (Kd.V_mono HO471.out (fun k_ hk => (⟨hk, hk.2⟩ : _ ∧ k_ ≠ gb489))) (fun _ hk => hk.2) (.int .i64 t475)) (fun _ hk => hk.2) (.int .i64 t476)) (fun _ hk => hk.2) (.int .i64 t477)) (fun _ hk => hk.2) (.string t478)) (fun _ hk => hk.2) (.int .i64 t479)) (fun _ hk => hk.2) (.int .i64 t480)) (fun _ hk => hk.2) (.int .i64 t481)) (fun _ hk => hk.2) (.int .i64 t482)) (fun _ hk => hk.2) (.string t483)) (fun _ hk => hk.2) (.slice Ao22 t484.length co22)) (fun _ h_ => h_.1)))); (case side2 => exact (Kd.V_reads' HO471.out).2.1); rintro e w24 ⟨rfl, hb⟩; refine ⟨_, rfl, ?_⟩; have n0_ := Aside0.mk (Kd.V_below (by (with_reducible repeat (first | apply Kd.V_alloc | apply Kd.V_drewN | apply Kd.V_drew)); exact (Kd.V_mono (Kd.V_far (p := ⟨gb489, 9, none⟩) (Kd.V_far (p := ⟨gb489, 8, none⟩) (Kd.V_far (p := ⟨gb489, 7, none⟩) (Kd.V_far (p := ⟨gb489, 6, none⟩) (Kd.V_far (p := ⟨gb489, 5, none⟩) (Kd.V_far (p := ⟨gb489, 4, none⟩) (Kd.V_far (p := ⟨gb489, 3, none⟩) (Kd.V_far (p := ⟨gb489, 2, none⟩) (Kd.V_far (p := ⟨gb489, 1, none⟩) (Kd.V_far (p := ⟨gb489, 0, none⟩) (Kd.V_mono HO471.out (fun k_ hk => (⟨hk, hk.2⟩ : _ ∧ k_ ≠ gb489))) (fun _ hk => hk.2) (.int .i64 t475)) (fun _ hk => hk.2) (.int .i64 t476)) (fun _ hk => hk.2) (.int .i64 t477)) (fun _ hk => hk.2) (.string t478)) (fun _ hk => hk.2) (.int .i64 t479)) (fun _ hk => hk.2) (.int .i64 t480)) (fun _ hk => hk.2) (.int .i64 t481)) (fun _ hk => hk.2) (.int .i64 t482)) (fun _ hk => hk.2) (.string t483)) (fun _ hk => hk.2) (.slice Ao22 t484.length co22)) (fun _ h_ => h_.1))) hb); have n1_ := Aside0.mk (Kd.V_below (by (with_reducible repeat (first | apply Kd.V_alloc | apply Kd.V_drewN | apply Kd.V_drew)); exact (Kd.V_mono (Kd.V_far (p := ⟨gb489, 9, none⟩) (Kd.V_far (p := ⟨gb489, 8, none⟩) (Kd.V_far (p := ⟨gb489, 7, none⟩) (Kd.V_far (p := ⟨gb489, 6, none⟩) (Kd.V_far (p := ⟨gb489, 5, none⟩) (Kd.V_far (p := ⟨gb489, 4, none⟩) (Kd.V_far (p := ⟨gb489, 3, none⟩) (Kd.V_far (p := ⟨gb489, 2, none⟩) (Kd.V_far (p := ⟨gb489, 1, none⟩) (Kd.V_far (p := ⟨gb489, 0, none⟩) (Kd.V_mono HO486.out (fun k_ hk => (⟨hk, hk.2⟩ : _ ∧ k_ ≠ gb489))) (fun _ hk => hk.2) (.int .i64 t475)) (fun _ hk => hk.2) (.int .i64 t476)) (fun _ hk => hk.2) (.int .i64 t477)) (fun _ hk => hk.2) (.string t478)) (fun _ hk => hk.2) (.int .i64 t479)) (fun _ hk => hk.2) (.int .i64 t480)) (fun _ hk => hk.2) (.int .i64 t481)) (fun _ hk => hk.2) (.int .i64 t482)) (fun _ hk => hk.2) (.string t483)) (fun _ hk => hk.2) (.slice Ao22 t484.length co22)) (fun _ h_ => h_.1))) hb); have n2_ := Aside0.mk (blk_below (g := gb474) (o := .cells #[.int .i64 t460, .int .i64 t461, .int .i64 t462, .string t463, .int .i64 t464, .int .i64 t465, .int .i64 t466, .int .i64 t467, .string t468, .slice Ao17 t469.length co17] 31 (0, 0)) (by refine zB (blk_far ?_ NB474_489.out _); refine zB ?_; refine blk_far ?_ NB474_489.out _; refine zB (blk_far ?_ NB474_489.out _); refine zB ?_; refine blk_far ?_ NB474_489.out _; refine zB (blk_far ?_ NB474_489.out _); refine zB ?_; refine blk_far ?_ NB474_489.out _; refine zB (blk_far ?_ NB474_489.out _); refine zB ?_; refine blk_far ?_ NB474_489.out _; refine zB (blk_far ?_ NB474_489.out _); refine zB (blk_far ?_ NB474_489.out _); refine zB ?_; exact BK474.out) hb); have n3_ := Aside0.mk (blk_below (g := gb489) (o := .cells #[.int .i64 t475, .int .i64 t476, .int .i64 t477, .string t478, .int .i64 t479, .int .i64 t480, .int .i64 t481, .int .i64 t482, .string t483, .slice Ao22 t484.length co22] 31 (0, 0)) (by exact zB (zP10 (zB BK489.out))) hb); have n4_ := Aside0.mk (below_step (qS6_3 HB.out) hb); clear HO471; clear HO486; clear BK474; clear BK489; clear HB; have HO471 := n0_; have HO486 := n1_; have BK474 := n2_; have BK489 := n3_; have HB := n4_; clear n0_ n1_ n2_ n3_ n4_; (try clear hb); (try clear hb2); (try clear hk); (try clear hi)) | (go_at_call 13; (with_reducible refine (pannierlaw05_wakes.calls k  t494 _ ?side1 A13.out).mono ?_); (case side1 => exact gl_4_4 (qS6_3 HB.out) hG); rintro e w25 ⟨rfl, hb⟩; have n0_ := Aside0.mk (Kd.V_below (by (with_reducible repeat (first | apply Kd.V_alloc | apply Kd.V_drewN | apply Kd.V_drew)); exact HO471.out) hb); have n1_ := Aside0.mk (Kd.V_below (by (with_reducible repeat (first | apply Kd.V_alloc | apply Kd.V_drewN | apply Kd.V_drew)); exact HO486.out) hb); have n2_ := Aside0.mk (blk_below (g := gb474) (o := .cells #[.int .i64 t460, .int .i64 t461, .int .i64 t462, .string t463, .int .i64 t464, .int .i64 t465, .int .i64 t466, .int .i64 t467, .string t468, .slice Ao17 t469.length co17] 31 (0, 0)) (zB BK474.out) hb); have n3_ := Aside0.mk (blk_below (g := gb489) (o := .cells #[.int .i64 t475, .int .i64 t476, .int .i64 t477, .string t478, .int .i64 t479, .int .i64 t480, .int .i64 t481, .int .i64 t482, .string t483, .slice Ao22 t484.length co22] 31 (0, 0)) (zB BK489.out) hb); have n4_ := Aside0.mk (below_step (qS6_3 HB.out) hb); clear HO471; clear HO486; clear BK474; clear BK489; clear HB; have HO471 := n0_; have HO486 := n1_; have BK474 := n2_; have BK489 := n3_; have HB := n4_; clear n0_ n1_ n2_ n3_ n4_; (try clear hb); (try clear hb2); (try clear hk); (try clear hi)))
              go_ret
              exact ⟨by first | rfl | (simp [errW_none, errW_some] <;> rfl) | (simp [*, errW_none, errW_some] <;> rfl), by repeat first | with_reducible exact HB.out | apply zS | refine below_set ?_ GE474.out | refine below_set ?_ GE489.out | exact HB.out⟩
            · replace c12 := Bool.eq_false_iff.mpr c12
              subst c12
              have H1 : (none) = some r := by rw [if_neg (show ¬ (false = true) by decide)] at H; exact H
              clear H
              have H := H1
              clear H1
              exact absurd H (by simp)
          · rw [if_neg c10] at H
            have c10b0 : (t488 == 14) = false := beq_eq_false_iff_ne.mpr c10
            have c10b1 : (t488 != 14) = true := bne_iff_ne.mpr c10
            by_cases c26 : t472 = 0
            · rw [if_pos c26] at H
              have c26b0 : (t472 == 0) = true := beq_iff_eq.mpr c26
              have c26b1 : (t472 != 0) = false := bne_eq_false_iff_eq.mpr c26
              clear c26
              by_cases c27 : t487 = 0
              · rw [if_pos c27] at H
                have c27b0 : (t487 == 0) = true := beq_iff_eq.mpr c27
                have c27b1 : (t487 != 0) = false := bne_eq_false_iff_eq.mpr c27
                clear c27
                by_cases c28 : t488 = 0
                · rw [if_pos c28] at H
                  have c28b0 : (t488 == 0) = true := beq_iff_eq.mpr c28
                  have c28b1 : (t488 != 0) = false := bne_eq_false_iff_eq.mpr c28
                  clear c28
                  replace H := Option.bind_eq_some_iff.mp H
                  obtain ⟨t495, A290, H⟩ := H
                  replace H : (if t495 = true then ((tree_Depth.f k t460 t461 t462 t463 t464 t465 t466 t467 t468 t469).bind fun t496 => (if t496 ≤ 16 then ((tree_Same.f k t460 t461 t462 t463 t464 t465 t466 t467 t468 t469 t475 t476 t477 t478 t479 t480 t481 t482 t483 t484).bind fun t497 => (if t497 = true then ((pannierlaw05_wakes.f k).bind fun t498 => (some t498)) else (none))) else (none))) else (none)) = some r := H
                  have A29 := Aside0.mk A290
                  clear A290
                  by_cases c30 : t495 = true
                  · subst c30
                    have H1 : ((tree_Depth.f k t460 t461 t462 t463 t464 t465 t466 t467 t468 t469).bind fun t496 => (if t496 ≤ 16 then ((tree_Same.f k t460 t461 t462 t463 t464 t465 t466 t467 t468 t469 t475 t476 t477 t478 t479 t480 t481 t482 t483 t484).bind fun t497 => (if t497 = true then ((pannierlaw05_wakes.f k).bind fun t498 => (some t498)) else (none))) else (none))) = some r := by rw [if_pos rfl] at H; exact H
                    clear H
                    have H := H1
                    clear H1
                    replace H := Option.bind_eq_some_iff.mp H
                    obtain ⟨t496, A310, H⟩ := H
                    replace H : (if t496 ≤ 16 then ((tree_Same.f k t460 t461 t462 t463 t464 t465 t466 t467 t468 t469 t475 t476 t477 t478 t479 t480 t481 t482 t483 t484).bind fun t497 => (if t497 = true then ((pannierlaw05_wakes.f k).bind fun t498 => (some t498)) else (none))) else (none)) = some r := H
                    have A31 := Aside0.mk A310
                    clear A310
                    by_cases c32 : t496 ≤ 16
                    · rw [if_pos c32] at H
                      have c32b0 : decide (t496 ≤ 16) = true := decide_eq_true c32
                      clear c32
                      replace H := Option.bind_eq_some_iff.mp H
                      obtain ⟨t497, A330, H⟩ := H
                      replace H : (if t497 = true then ((pannierlaw05_wakes.f k).bind fun t498 => (some t498)) else (none)) = some r := H
                      have A33 := Aside0.mk A330
                      clear A330
                      by_cases c34 : t497 = true
                      · subst c34
                        have H1 : ((pannierlaw05_wakes.f k).bind fun t498 => (some t498)) = some r := by rw [if_pos rfl] at H; exact H
                        clear H
                        have H := H1
                        clear H1
                        replace H := Option.bind_eq_some_iff.mp H
                        obtain ⟨t498, A350, H⟩ := H
                        replace H : (some t498) = some r := H
                        have A35 := Aside0.mk A350
                        clear A350
                        obtain rfl := Option.some.inj H
                        go_enter Tryz.func6, Tryz.ntmps6
                        go_wp2_with (first | ((with_reducible refine gate_callee (f := 14) rfl ?_); refine goesL_ (some 15) rfl rfl Tryz.func14 (by kernel_rfl) rfl #[.string a0] rfl (by (try simp only [List.map_toArray, List.map_cons, List.map_nil]); first | done | rfl | (simp only [List.length_drop, List.length_take]; rfl)) ?_; (with_reducible refine (tree_Parse.calls k a0 t460 t461 t462 t463 t464 t465 t466 t467 t468 t469 t472 t473 _ ?side1 A5.out).mono ?_); (case side1 => exact gl_4_4 (qS6_1 HB.out) hG); rintro e w36 ⟨v470, rfl, ho0, hb⟩; refine ⟨_, rfl, ?_⟩; have n0_ := Aside0.mk (Kd.V_lower (Kd.V_mono (ok' := fun k_ => True) ho0 (fun k_ hk_ => trivial)) (below_size (qS6_1 HB.out))); have n1_ := Aside0.mk (below_step (qS6_1 HB.out) hb); clear HB; have HO471 := n0_; have HB := n1_; clear n0_ n1_; (try clear hb); (try clear hb2); (try clear hk); (try clear hi); (try clear ho0)) | ((with_reducible refine gate_dst (N := 3) rfl ?_); (try (refine gate_guard (by rfl) ?_; dsimp only)); refine box_event ?hg (N := 3) ?hd (cs := #[.int .i64 0, .int .i64 0, .int .i64 0, .string (⟨#[]⟩ : ByteArray), .int .i64 0, .int .i64 0, .int .i64 0, .int .i64 0, .string (⟨#[]⟩ : ByteArray), .slice none 0 0]) (t := 31) ?hr ?_; (case hd => rfl); (case hg => rfl); (case hr => first | (go_simp; done) | (go_simp; rfl)); intro gb474 hg w37 hbox hb; have n0_ := Aside0.mk (Kd.V_below (Kd.V_elderB (by (with_reducible repeat (first | apply Kd.V_alloc | apply Kd.V_drewN | apply Kd.V_drew)); exact HO471.out) gb474 (Nat.le_of_eq hg.symm)) hb); have n1_ := Aside0.mk (below_step (qS6_1 HB.out) hb); have n2_ := Aside0.mk (hbox); have n3_ := Aside0.mk ((by rw [hg]; exact (below_size (qS6_1 HB.out)) : w.heap.size ≤ gb474)); have n4_ := n3_; clear HO471; clear HB; have HO471 := n0_; have HB := n1_; have BK474 := n2_; have GW474 := n3_; have GE474 := n4_; clear n0_ n1_ n2_ n3_ n4_; clear hb hbox hg; obtain ⟨hcz38_0, hcz38_1, hcz38_2, hcz38_3, hcz38_4, hcz38_5, hcz38_6, hcz38_7, hcz38_8, hcz38_9, hfz38_0, hfz38_1, hfz38_2, hfz38_3, hfz38_4, hfz38_5, hfz38_6, hfz38_7, hfz38_8, hfz38_9⟩ := zC10 BK474.out; obtain ⟨Ao39, co39, eo39⟩ := Kd.V_slice HO471.out; subst eo39) | ((with_reducible refine gate_callee (f := 14) rfl ?_); refine goesL_ (some 23) rfl rfl Tryz.func14 (by kernel_rfl) rfl #[.string (((⟨#[40]⟩ : ByteArray) ++ a0) ++ (⟨#[41]⟩ : ByteArray))] rfl (by (try simp only [List.map_toArray, List.map_cons, List.map_nil]); first | done | rfl | (simp only [List.length_drop, List.length_take]; rfl)) ?_; (with_reducible refine (tree_Parse.calls k (((⟨#[40]⟩ : ByteArray) ++ a0) ++ (⟨#[41]⟩ : ByteArray)) t475 t476 t477 t478 t479 t480 t481 t482 t483 t484 t487 t488 _ ?side1 A8.out).mono ?_); (case side1 => exact gl_4_4 (qS6_2 HB.out) hG); rintro e w40 ⟨v485, rfl, ho0, hb⟩; refine ⟨_, rfl, ?_⟩; have n0_ := Aside0.mk (Kd.V_below (by (with_reducible repeat (first | apply Kd.V_alloc | apply Kd.V_drewN | apply Kd.V_drew)); exact (Kd.V_mono (Kd.V_far (p := ⟨gb474, 9, none⟩) (Kd.V_far (p := ⟨gb474, 8, none⟩) (Kd.V_far (p := ⟨gb474, 7, none⟩) (Kd.V_far (p := ⟨gb474, 6, none⟩) (Kd.V_far (p := ⟨gb474, 5, none⟩) (Kd.V_far (p := ⟨gb474, 4, none⟩) (Kd.V_far (p := ⟨gb474, 3, none⟩) (Kd.V_far (p := ⟨gb474, 2, none⟩) (Kd.V_far (p := ⟨gb474, 1, none⟩) (Kd.V_far (p := ⟨gb474, 0, none⟩) (Kd.V_mono HO471.out (fun k_ hk => (⟨hk, hk.2⟩ : _ ∧ k_ ≠ gb474))) (fun _ hk => hk.2) (.int .i64 t460)) (fun _ hk => hk.2) (.int .i64 t461)) (fun _ hk => hk.2) (.int .i64 t462)) (fun _ hk => hk.2) (.string t463)) (fun _ hk => hk.2) (.int .i64 t464)) (fun _ hk => hk.2) (.int .i64 t465)) (fun _ hk => hk.2) (.int .i64 t466)) (fun _ hk => hk.2) (.int .i64 t467)) (fun _ hk => hk.2) (.string t468)) (fun _ hk => hk.2) (.slice Ao39 t469.length co39)) (fun _ h_ => h_.1))) hb); have n1_ := Aside0.mk (Kd.V_lower (Kd.V_mono (ok' := fun k_ => k_ ≠ gb474) ho0 (fun k_ hk_ => (Kd.freshB (g := gb474) (o := .cells #[.int .i64 t460, .int .i64 t461, .int .i64 t462, .string t463, .int .i64 t464, .int .i64 t465, .int .i64 t466, .int .i64 t467, .string t468, .slice Ao39 t469.length co39] 31 (0, 0)) (by exact zB (zP10 (zB BK474.out))) k_ hk_))) (below_size (qS6_2 HB.out))); have n2_ := Aside0.mk (blk_below (g := gb474) (o := .cells #[.int .i64 t460, .int .i64 t461, .int .i64 t462, .string t463, .int .i64 t464, .int .i64 t465, .int .i64 t466, .int .i64 t467, .string t468, .slice Ao39 t469.length co39] 31 (0, 0)) (by exact zB (zP10 (zB BK474.out))) hb); have n3_ := Aside0.mk (below_step (qS6_2 HB.out) hb); clear HO471; clear BK474; clear HB; have HO471 := n0_; have HO486 := n1_; have BK474 := n2_; have HB := n3_; clear n0_ n1_ n2_ n3_; (try clear hb); (try clear hb2); (try clear hk); (try clear hi); (try clear ho0)) | ((with_reducible refine gate_dst (N := 6) rfl ?_); (try (refine gate_guard (by rfl) ?_; dsimp only)); refine box_event ?hg (N := 6) ?hd (cs := #[.int .i64 0, .int .i64 0, .int .i64 0, .string (⟨#[]⟩ : ByteArray), .int .i64 0, .int .i64 0, .int .i64 0, .int .i64 0, .string (⟨#[]⟩ : ByteArray), .slice none 0 0]) (t := 31) ?hr ?_; (case hd => rfl); (case hg => rfl); (case hr => first | (go_simp; done) | (go_simp; rfl)); intro gb489 hg w41 hbox hb; have n0_ := Aside0.mk (Kd.V_below (Kd.V_elderB (by (with_reducible repeat (first | apply Kd.V_alloc | apply Kd.V_drewN | apply Kd.V_drew)); exact HO471.out) gb489 (Nat.le_of_eq hg.symm)) hb); have n1_ := Aside0.mk (Kd.V_below (Kd.V_elderB (by (with_reducible repeat (first | apply Kd.V_alloc | apply Kd.V_drewN | apply Kd.V_drew)); exact HO486.out) gb489 (Nat.le_of_eq hg.symm)) hb); have n2_ := Aside0.mk (blk_below (g := gb474) (o := .cells #[.int .i64 t460, .int .i64 t461, .int .i64 t462, .string t463, .int .i64 t464, .int .i64 t465, .int .i64 t466, .int .i64 t467, .string t468, .slice Ao39 t469.length co39] 31 (0, 0)) (zB BK474.out) hb); have n3_ := Aside0.mk (below_step (qS6_2 HB.out) hb); have n4_ := Aside0.mk (hbox); have n5_ := Aside0.mk ((by rw [hg]; exact (below_size (qS6_2 HB.out)) : w.heap.size ≤ gb489)); have n6_ := n5_; have n7_ := Aside0.mk ((by rw [hg]; exact Nat.ne_of_lt (blk_lt (g := gb474) (o := .cells #[.int .i64 t460, .int .i64 t461, .int .i64 t462, .string t463, .int .i64 t464, .int .i64 t465, .int .i64 t466, .int .i64 t467, .string t468, .slice Ao39 t469.length co39] 31 (0, 0)) (zB BK474.out)) : gb474 ≠ gb489)); have n8_ := Aside0.mk ((by rw [hg]; exact Nat.ne_of_gt (blk_lt (g := gb474) (o := .cells #[.int .i64 t460, .int .i64 t461, .int .i64 t462, .string t463, .int .i64 t464, .int .i64 t465, .int .i64 t466, .int .i64 t467, .string t468, .slice Ao39 t469.length co39] 31 (0, 0)) (zB BK474.out)) : gb489 ≠ gb474)); clear HO471; clear HO486; clear BK474; clear HB; have HO471 := n0_; have HO486 := n1_; have BK474 := n2_; have HB := n3_; have BK489 := n4_; have GW489 := n5_; have GE489 := n6_; have NB474_489 := n7_; have NB489_474 := n8_; clear n0_ n1_ n2_ n3_ n4_ n5_ n6_ n7_ n8_; clear hb hbox hg; have hnb42 := NB489_474.out; have hnc42 := NB474_489.out; obtain ⟨hcz43_0, hcz43_1, hcz43_2, hcz43_3, hcz43_4, hcz43_5, hcz43_6, hcz43_7, hcz43_8, hcz43_9, hfz43_0, hfz43_1, hfz43_2, hfz43_3, hfz43_4, hfz43_5, hfz43_6, hfz43_7, hfz43_8, hfz43_9⟩ := zC10 BK489.out; obtain ⟨Ao44, co44, eo44⟩ := Kd.V_slice HO486.out; subst eo44; obtain ⟨hcz45_0, hcz45_1, hcz45_2, hcz45_3, hcz45_4, hcz45_5, hcz45_6, hcz45_7, hcz45_8, hcz45_9, hfz45_0, hfz45_1, hfz45_2, hfz45_3, hfz45_4, hfz45_5, hfz45_6, hfz45_7, hfz45_8, hfz45_9⟩ := zC10 BK474.out) | (go_at_call 17; (with_reducible refine (tree_Good.calls k t460 t461 t462 t463 t464 t465 t466 t467 t468 _ _ t469 true _ ?side1 ?side2 A29.out).mono ?_); (case side1 => refine (Kd.V_reads' (e := 31) (base := w.heap.size) (ok := fun k_ => ((True ∧ k_ ≠ gb474) ∧ k_ ≠ gb489)) (n := t469.length) (c := co39) ?_).2.2; exact (by (with_reducible repeat (first | apply Kd.V_alloc | apply Kd.V_drewN | apply Kd.V_drew)); exact (Kd.V_mono (Kd.V_far (p := ⟨gb489, 9, none⟩) (Kd.V_far (p := ⟨gb489, 8, none⟩) (Kd.V_far (p := ⟨gb489, 7, none⟩) (Kd.V_far (p := ⟨gb489, 6, none⟩) (Kd.V_far (p := ⟨gb489, 5, none⟩) (Kd.V_far (p := ⟨gb489, 4, none⟩) (Kd.V_far (p := ⟨gb489, 3, none⟩) (Kd.V_far (p := ⟨gb489, 2, none⟩) (Kd.V_far (p := ⟨gb489, 1, none⟩) (Kd.V_far (p := ⟨gb489, 0, none⟩) (Kd.V_mono HO471.out (fun k_ hk => (⟨hk, hk.2⟩ : _ ∧ k_ ≠ gb489))) (fun _ hk => hk.2) (.int .i64 t475)) (fun _ hk => hk.2) (.int .i64 t476)) (fun _ hk => hk.2) (.int .i64 t477)) (fun _ hk => hk.2) (.string t478)) (fun _ hk => hk.2) (.int .i64 t479)) (fun _ hk => hk.2) (.int .i64 t480)) (fun _ hk => hk.2) (.int .i64 t481)) (fun _ hk => hk.2) (.int .i64 t482)) (fun _ hk => hk.2) (.string t483)) (fun _ hk => hk.2) (.slice Ao44 t484.length co44)) (fun _ h_ => h_.1)))); (case side2 => exact (Kd.V_reads' HO471.out).2.1); rintro e w46 ⟨rfl, hb⟩; have n0_ := Aside0.mk (Kd.V_below (by (with_reducible repeat (first | apply Kd.V_alloc | apply Kd.V_drewN | apply Kd.V_drew)); exact (Kd.V_mono (Kd.V_far (p := ⟨gb489, 9, none⟩) (Kd.V_far (p := ⟨gb489, 8, none⟩) (Kd.V_far (p := ⟨gb489, 7, none⟩) (Kd.V_far (p := ⟨gb489, 6, none⟩) (Kd.V_far (p := ⟨gb489, 5, none⟩) (Kd.V_far (p := ⟨gb489, 4, none⟩) (Kd.V_far (p := ⟨gb489, 3, none⟩) (Kd.V_far (p := ⟨gb489, 2, none⟩) (Kd.V_far (p := ⟨gb489, 1, none⟩) (Kd.V_far (p := ⟨gb489, 0, none⟩) (Kd.V_mono HO471.out (fun k_ hk => (⟨hk, hk.2⟩ : _ ∧ k_ ≠ gb489))) (fun _ hk => hk.2) (.int .i64 t475)) (fun _ hk => hk.2) (.int .i64 t476)) (fun _ hk => hk.2) (.int .i64 t477)) (fun _ hk => hk.2) (.string t478)) (fun _ hk => hk.2) (.int .i64 t479)) (fun _ hk => hk.2) (.int .i64 t480)) (fun _ hk => hk.2) (.int .i64 t481)) (fun _ hk => hk.2) (.int .i64 t482)) (fun _ hk => hk.2) (.string t483)) (fun _ hk => hk.2) (.slice Ao44 t484.length co44)) (fun _ h_ => h_.1))) hb); have n1_ := Aside0.mk (Kd.V_below (by (with_reducible repeat (first | apply Kd.V_alloc | apply Kd.V_drewN | apply Kd.V_drew)); exact (Kd.V_mono (Kd.V_far (p := ⟨gb489, 9, none⟩) (Kd.V_far (p := ⟨gb489, 8, none⟩) (Kd.V_far (p := ⟨gb489, 7, none⟩) (Kd.V_far (p := ⟨gb489, 6, none⟩) (Kd.V_far (p := ⟨gb489, 5, none⟩) (Kd.V_far (p := ⟨gb489, 4, none⟩) (Kd.V_far (p := ⟨gb489, 3, none⟩) (Kd.V_far (p := ⟨gb489, 2, none⟩) (Kd.V_far (p := ⟨gb489, 1, none⟩) (Kd.V_far (p := ⟨gb489, 0, none⟩) (Kd.V_mono HO486.out (fun k_ hk => (⟨hk, hk.2⟩ : _ ∧ k_ ≠ gb489))) (fun _ hk => hk.2) (.int .i64 t475)) (fun _ hk => hk.2) (.int .i64 t476)) (fun _ hk => hk.2) (.int .i64 t477)) (fun _ hk => hk.2) (.string t478)) (fun _ hk => hk.2) (.int .i64 t479)) (fun _ hk => hk.2) (.int .i64 t480)) (fun _ hk => hk.2) (.int .i64 t481)) (fun _ hk => hk.2) (.int .i64 t482)) (fun _ hk => hk.2) (.string t483)) (fun _ hk => hk.2) (.slice Ao44 t484.length co44)) (fun _ h_ => h_.1))) hb); have n2_ := Aside0.mk (blk_below (g := gb474) (o := .cells #[.int .i64 t460, .int .i64 t461, .int .i64 t462, .string t463, .int .i64 t464, .int .i64 t465, .int .i64 t466, .int .i64 t467, .string t468, .slice Ao39 t469.length co39] 31 (0, 0)) (by refine zB (blk_far ?_ NB474_489.out _); refine zB ?_; refine blk_far ?_ NB474_489.out _; refine zB (blk_far ?_ NB474_489.out _); refine zB ?_; refine blk_far ?_ NB474_489.out _; refine zB (blk_far ?_ NB474_489.out _); refine zB ?_; refine blk_far ?_ NB474_489.out _; refine zB (blk_far ?_ NB474_489.out _); refine zB ?_; refine blk_far ?_ NB474_489.out _; refine zB (blk_far ?_ NB474_489.out _); refine zB (blk_far ?_ NB474_489.out _); refine zB ?_; exact BK474.out) hb); have n3_ := Aside0.mk (blk_below (g := gb489) (o := .cells #[.int .i64 t475, .int .i64 t476, .int .i64 t477, .string t478, .int .i64 t479, .int .i64 t480, .int .i64 t481, .int .i64 t482, .string t483, .slice Ao44 t484.length co44] 31 (0, 0)) (by exact zB (zP10 (zB BK489.out))) hb); have n4_ := Aside0.mk (below_step (qS6_3 HB.out) hb); clear HO471; clear HO486; clear BK474; clear BK489; clear HB; have HO471 := n0_; have HO486 := n1_; have BK474 := n2_; have BK489 := n3_; have HB := n4_; clear n0_ n1_ n2_ n3_ n4_; (try clear hb); (try clear hb2); (try clear hk); (try clear hi); obtain ⟨hcz47_0, hcz47_1, hcz47_2, hcz47_3, hcz47_4, hcz47_5, hcz47_6, hcz47_7, hcz47_8, hcz47_9, hfz47_0, hfz47_1, hfz47_2, hfz47_3, hfz47_4, hfz47_5, hfz47_6, hfz47_7, hfz47_8, hfz47_9⟩ := zC10 BK474.out) | (go_at_call 18; (with_reducible refine (tree_Depth.calls k t460 t461 t462 t463 t464 t465 t466 t467 t468 _ _ t469 t496 _ ?side1 ?side2 A31.out).mono ?_); (case side1 => repeat (first | exact (Kd.V_reads' HO471.out).2.2 | (with_reducible refine Kd.C_alloc ?_ _) | (with_reducible refine Kd.C_drewN ?_ _) | (with_reducible refine Kd.C_drew ?_))); (case side2 => exact (Kd.V_reads' HO471.out).2.1); rintro e w48 ⟨rfl, hb⟩; have n0_ := Aside0.mk (Kd.V_below (by (with_reducible repeat (first | apply Kd.V_alloc | apply Kd.V_drewN | apply Kd.V_drew)); exact HO471.out) hb); have n1_ := Aside0.mk (Kd.V_below (by (with_reducible repeat (first | apply Kd.V_alloc | apply Kd.V_drewN | apply Kd.V_drew)); exact HO486.out) hb); have n2_ := Aside0.mk (blk_below (g := gb474) (o := .cells #[.int .i64 t460, .int .i64 t461, .int .i64 t462, .string t463, .int .i64 t464, .int .i64 t465, .int .i64 t466, .int .i64 t467, .string t468, .slice Ao39 t469.length co39] 31 (0, 0)) (zB BK474.out) hb); have n3_ := Aside0.mk (blk_below (g := gb489) (o := .cells #[.int .i64 t475, .int .i64 t476, .int .i64 t477, .string t478, .int .i64 t479, .int .i64 t480, .int .i64 t481, .int .i64 t482, .string t483, .slice Ao44 t484.length co44] 31 (0, 0)) (zB BK489.out) hb); have n4_ := Aside0.mk (below_step (qS6_3 HB.out) hb); clear HO471; clear HO486; clear BK474; clear BK489; clear HB; have HO471 := n0_; have HO486 := n1_; have BK474 := n2_; have BK489 := n3_; have HB := n4_; clear n0_ n1_ n2_ n3_ n4_; (try clear hb); (try clear hb2); (try clear hk); (try clear hi); obtain ⟨hcz49_0, hcz49_1, hcz49_2, hcz49_3, hcz49_4, hcz49_5, hcz49_6, hcz49_7, hcz49_8, hcz49_9, hfz49_0, hfz49_1, hfz49_2, hfz49_3, hfz49_4, hfz49_5, hfz49_6, hfz49_7, hfz49_8, hfz49_9⟩ := zC10 BK474.out; obtain ⟨hcz50_0, hcz50_1, hcz50_2, hcz50_3, hcz50_4, hcz50_5, hcz50_6, hcz50_7, hcz50_8, hcz50_9, hfz50_0, hfz50_1, hfz50_2, hfz50_3, hfz50_4, hfz50_5, hfz50_6, hfz50_7, hfz50_8, hfz50_9⟩ := zC10 BK489.out) | (go_at_call 19; (with_reducible refine (tree_Same.calls k t460 t461 t462 t463 t464 t465 t466 t467 t468 _ _ t469 t475 t476 t477 t478 t479 t480 t481 t482 t483 _ _ t484 true _ ?side1 ?side2 ?side3 ?side4 A33.out).mono ?_); (case side1 => repeat (first | exact (Kd.V_reads' HO471.out).2.2 | (with_reducible refine Kd.C_alloc ?_ _) | (with_reducible refine Kd.C_drewN ?_ _) | (with_reducible refine Kd.C_drew ?_))); (case side2 => exact (Kd.V_reads' HO471.out).2.1); (case side3 => repeat (first | exact (Kd.V_reads' HO486.out).2.2 | (with_reducible refine Kd.C_alloc ?_ _) | (with_reducible refine Kd.C_drewN ?_ _) | (with_reducible refine Kd.C_drew ?_))); (case side4 => exact (Kd.V_reads' HO486.out).2.1); rintro e w51 ⟨rfl, hb⟩; have n0_ := Aside0.mk (Kd.V_below (by (with_reducible repeat (first | apply Kd.V_alloc | apply Kd.V_drewN | apply Kd.V_drew)); exact HO471.out) hb); have n1_ := Aside0.mk (Kd.V_below (by (with_reducible repeat (first | apply Kd.V_alloc | apply Kd.V_drewN | apply Kd.V_drew)); exact HO486.out) hb); have n2_ := Aside0.mk (blk_below (g := gb474) (o := .cells #[.int .i64 t460, .int .i64 t461, .int .i64 t462, .string t463, .int .i64 t464, .int .i64 t465, .int .i64 t466, .int .i64 t467, .string t468, .slice Ao39 t469.length co39] 31 (0, 0)) (zB BK474.out) hb); have n3_ := Aside0.mk (blk_below (g := gb489) (o := .cells #[.int .i64 t475, .int .i64 t476, .int .i64 t477, .string t478, .int .i64 t479, .int .i64 t480, .int .i64 t481, .int .i64 t482, .string t483, .slice Ao44 t484.length co44] 31 (0, 0)) (zB BK489.out) hb); have n4_ := Aside0.mk (below_step (qS6_3 HB.out) hb); clear HO471; clear HO486; clear BK474; clear BK489; clear HB; have HO471 := n0_; have HO486 := n1_; have BK474 := n2_; have BK489 := n3_; have HB := n4_; clear n0_ n1_ n2_ n3_ n4_; (try clear hb); (try clear hb2); (try clear hk); (try clear hi)) | (go_at_call 13; (with_reducible refine (pannierlaw05_wakes.calls k  t498 _ ?side1 A35.out).mono ?_); (case side1 => exact gl_4_4 (qS6_3 HB.out) hG); rintro e w52 ⟨rfl, hb⟩; have n0_ := Aside0.mk (Kd.V_below (by (with_reducible repeat (first | apply Kd.V_alloc | apply Kd.V_drewN | apply Kd.V_drew)); exact HO471.out) hb); have n1_ := Aside0.mk (Kd.V_below (by (with_reducible repeat (first | apply Kd.V_alloc | apply Kd.V_drewN | apply Kd.V_drew)); exact HO486.out) hb); have n2_ := Aside0.mk (blk_below (g := gb474) (o := .cells #[.int .i64 t460, .int .i64 t461, .int .i64 t462, .string t463, .int .i64 t464, .int .i64 t465, .int .i64 t466, .int .i64 t467, .string t468, .slice Ao39 t469.length co39] 31 (0, 0)) (zB BK474.out) hb); have n3_ := Aside0.mk (blk_below (g := gb489) (o := .cells #[.int .i64 t475, .int .i64 t476, .int .i64 t477, .string t478, .int .i64 t479, .int .i64 t480, .int .i64 t481, .int .i64 t482, .string t483, .slice Ao44 t484.length co44] 31 (0, 0)) (zB BK489.out) hb); have n4_ := Aside0.mk (below_step (qS6_3 HB.out) hb); clear HO471; clear HO486; clear BK474; clear BK489; clear HB; have HO471 := n0_; have HO486 := n1_; have BK474 := n2_; have BK489 := n3_; have HB := n4_; clear n0_ n1_ n2_ n3_ n4_; (try clear hb); (try clear hb2); (try clear hk); (try clear hi)))
                        go_ret
                        exact ⟨by first | rfl | (simp [errW_none, errW_some] <;> rfl) | (simp [*, errW_none, errW_some] <;> rfl), by repeat first | with_reducible exact HB.out | apply zS | refine below_set ?_ GE474.out | refine below_set ?_ GE489.out | exact HB.out⟩
                      · replace c34 := Bool.eq_false_iff.mpr c34
                        subst c34
                        have H1 : (none) = some r := by rw [if_neg (show ¬ (false = true) by decide)] at H; exact H
                        clear H
                        have H := H1
                        clear H1
                        exact absurd H (by simp)
                    · rw [if_neg c32] at H
                      exact absurd H (by simp)
                  · replace c30 := Bool.eq_false_iff.mpr c30
                    subst c30
                    have H1 : (none) = some r := by rw [if_neg (show ¬ (false = true) by decide)] at H; exact H
                    clear H
                    have H := H1
                    clear H1
                    exact absurd H (by simp)
                · rw [if_neg c28] at H
                  exact absurd H (by simp)
              · rw [if_neg c27] at H
                exact absurd H (by simp)
            · rw [if_neg c26] at H
              exact absurd H (by simp)
        · rw [if_neg c9] at H
          have c9b0 : (t473 == 0) = false := beq_eq_false_iff_ne.mpr c9
          have c9b1 : (t473 != 0) = true := bne_iff_ne.mpr c9
          by_cases c53 : t460 = 0
          · rw [if_pos c53] at H
            have c53b0 : (t460 == 0) = true := beq_iff_eq.mpr c53
            have c53b1 : (t460 != 0) = false := bne_eq_false_iff_eq.mpr c53
            clear c53
            by_cases c54 : (t469.length : Int) = 0
            · rw [if_pos c54] at H
              have c54b0 : ((t469.length : Int) == 0) = true := beq_iff_eq.mpr c54
              have c54b1 : ((t469.length : Int) != 0) = false := bne_eq_false_iff_eq.mpr c54
              clear c54
              by_cases c55 : t473 = 14
              · rw [if_pos c55] at H
                have c55b0 : (t473 == 14) = true := beq_iff_eq.mpr c55
                have c55b1 : (t473 != 14) = false := bne_eq_false_iff_eq.mpr c55
                clear c55
                replace H := Option.bind_eq_some_iff.mp H
                obtain ⟨t490, A560, H⟩ := H
                replace H : (some t490) = some r := H
                have A56 := Aside0.mk A560
                clear A560
                obtain rfl := Option.some.inj H
                go_enter Tryz.func6, Tryz.ntmps6
                go_wp2_with (first | ((with_reducible refine gate_callee (f := 14) rfl ?_); refine goesL_ (some 15) rfl rfl Tryz.func14 (by kernel_rfl) rfl #[.string a0] rfl (by (try simp only [List.map_toArray, List.map_cons, List.map_nil]); first | done | rfl | (simp only [List.length_drop, List.length_take]; rfl)) ?_; (with_reducible refine (tree_Parse.calls k a0 t460 t461 t462 t463 t464 t465 t466 t467 t468 t469 t472 t473 _ ?side1 A5.out).mono ?_); (case side1 => exact gl_4_4 (qS6_1 HB.out) hG); rintro e w57 ⟨v470, rfl, ho0, hb⟩; refine ⟨_, rfl, ?_⟩; have n0_ := Aside0.mk (Kd.V_lower (Kd.V_mono (ok' := fun k_ => True) ho0 (fun k_ hk_ => trivial)) (below_size (qS6_1 HB.out))); have n1_ := Aside0.mk (below_step (qS6_1 HB.out) hb); clear HB; have HO471 := n0_; have HB := n1_; clear n0_ n1_; (try clear hb); (try clear hb2); (try clear hk); (try clear hi); (try clear ho0)) | ((with_reducible refine gate_dst (N := 3) rfl ?_); (try (refine gate_guard (by rfl) ?_; dsimp only)); refine box_event ?hg (N := 3) ?hd (cs := #[.int .i64 0, .int .i64 0, .int .i64 0, .string (⟨#[]⟩ : ByteArray), .int .i64 0, .int .i64 0, .int .i64 0, .int .i64 0, .string (⟨#[]⟩ : ByteArray), .slice none 0 0]) (t := 31) ?hr ?_; (case hd => rfl); (case hg => rfl); (case hr => first | (go_simp; done) | (go_simp; rfl)); intro gb474 hg w58 hbox hb; have n0_ := Aside0.mk (Kd.V_below (Kd.V_elderB (by (with_reducible repeat (first | apply Kd.V_alloc | apply Kd.V_drewN | apply Kd.V_drew)); exact HO471.out) gb474 (Nat.le_of_eq hg.symm)) hb); have n1_ := Aside0.mk (below_step (qS6_1 HB.out) hb); have n2_ := Aside0.mk (hbox); have n3_ := Aside0.mk ((by rw [hg]; exact (below_size (qS6_1 HB.out)) : w.heap.size ≤ gb474)); have n4_ := n3_; clear HO471; clear HB; have HO471 := n0_; have HB := n1_; have BK474 := n2_; have GW474 := n3_; have GE474 := n4_; clear n0_ n1_ n2_ n3_ n4_; clear hb hbox hg; obtain ⟨hcz59_0, hcz59_1, hcz59_2, hcz59_3, hcz59_4, hcz59_5, hcz59_6, hcz59_7, hcz59_8, hcz59_9, hfz59_0, hfz59_1, hfz59_2, hfz59_3, hfz59_4, hfz59_5, hfz59_6, hfz59_7, hfz59_8, hfz59_9⟩ := zC10 BK474.out; obtain ⟨Ao60, co60, eo60⟩ := Kd.V_slice HO471.out; subst eo60) | ((with_reducible refine gate_callee (f := 14) rfl ?_); refine goesL_ (some 23) rfl rfl Tryz.func14 (by kernel_rfl) rfl #[.string (((⟨#[40]⟩ : ByteArray) ++ a0) ++ (⟨#[41]⟩ : ByteArray))] rfl (by (try simp only [List.map_toArray, List.map_cons, List.map_nil]); first | done | rfl | (simp only [List.length_drop, List.length_take]; rfl)) ?_; (with_reducible refine (tree_Parse.calls k (((⟨#[40]⟩ : ByteArray) ++ a0) ++ (⟨#[41]⟩ : ByteArray)) t475 t476 t477 t478 t479 t480 t481 t482 t483 t484 t487 t488 _ ?side1 A8.out).mono ?_); (case side1 => exact gl_4_4 (qS6_2 HB.out) hG); rintro e w61 ⟨v485, rfl, ho0, hb⟩; refine ⟨_, rfl, ?_⟩; have n0_ := Aside0.mk (Kd.V_below (by (with_reducible repeat (first | apply Kd.V_alloc | apply Kd.V_drewN | apply Kd.V_drew)); exact (Kd.V_mono (Kd.V_far (p := ⟨gb474, 9, none⟩) (Kd.V_far (p := ⟨gb474, 8, none⟩) (Kd.V_far (p := ⟨gb474, 7, none⟩) (Kd.V_far (p := ⟨gb474, 6, none⟩) (Kd.V_far (p := ⟨gb474, 5, none⟩) (Kd.V_far (p := ⟨gb474, 4, none⟩) (Kd.V_far (p := ⟨gb474, 3, none⟩) (Kd.V_far (p := ⟨gb474, 2, none⟩) (Kd.V_far (p := ⟨gb474, 1, none⟩) (Kd.V_far (p := ⟨gb474, 0, none⟩) (Kd.V_mono HO471.out (fun k_ hk => (⟨hk, hk.2⟩ : _ ∧ k_ ≠ gb474))) (fun _ hk => hk.2) (.int .i64 t460)) (fun _ hk => hk.2) (.int .i64 t461)) (fun _ hk => hk.2) (.int .i64 t462)) (fun _ hk => hk.2) (.string t463)) (fun _ hk => hk.2) (.int .i64 t464)) (fun _ hk => hk.2) (.int .i64 t465)) (fun _ hk => hk.2) (.int .i64 t466)) (fun _ hk => hk.2) (.int .i64 t467)) (fun _ hk => hk.2) (.string t468)) (fun _ hk => hk.2) (.slice Ao60 t469.length co60)) (fun _ h_ => h_.1))) hb); have n1_ := Aside0.mk (Kd.V_lower (Kd.V_mono (ok' := fun k_ => k_ ≠ gb474) ho0 (fun k_ hk_ => (Kd.freshB (g := gb474) (o := .cells #[.int .i64 t460, .int .i64 t461, .int .i64 t462, .string t463, .int .i64 t464, .int .i64 t465, .int .i64 t466, .int .i64 t467, .string t468, .slice Ao60 t469.length co60] 31 (0, 0)) (by exact zB (zP10 (zB BK474.out))) k_ hk_))) (below_size (qS6_2 HB.out))); have n2_ := Aside0.mk (blk_below (g := gb474) (o := .cells #[.int .i64 t460, .int .i64 t461, .int .i64 t462, .string t463, .int .i64 t464, .int .i64 t465, .int .i64 t466, .int .i64 t467, .string t468, .slice Ao60 t469.length co60] 31 (0, 0)) (by exact zB (zP10 (zB BK474.out))) hb); have n3_ := Aside0.mk (below_step (qS6_2 HB.out) hb); clear HO471; clear BK474; clear HB; have HO471 := n0_; have HO486 := n1_; have BK474 := n2_; have HB := n3_; clear n0_ n1_ n2_ n3_; (try clear hb); (try clear hb2); (try clear hk); (try clear hi); (try clear ho0)) | ((with_reducible refine gate_dst (N := 6) rfl ?_); (try (refine gate_guard (by rfl) ?_; dsimp only)); refine box_event ?hg (N := 6) ?hd (cs := #[.int .i64 0, .int .i64 0, .int .i64 0, .string (⟨#[]⟩ : ByteArray), .int .i64 0, .int .i64 0, .int .i64 0, .int .i64 0, .string (⟨#[]⟩ : ByteArray), .slice none 0 0]) (t := 31) ?hr ?_; (case hd => rfl); (case hg => rfl); (case hr => first | (go_simp; done) | (go_simp; rfl)); intro gb489 hg w62 hbox hb; have n0_ := Aside0.mk (Kd.V_below (Kd.V_elderB (by (with_reducible repeat (first | apply Kd.V_alloc | apply Kd.V_drewN | apply Kd.V_drew)); exact HO471.out) gb489 (Nat.le_of_eq hg.symm)) hb); have n1_ := Aside0.mk (Kd.V_below (Kd.V_elderB (by (with_reducible repeat (first | apply Kd.V_alloc | apply Kd.V_drewN | apply Kd.V_drew)); exact HO486.out) gb489 (Nat.le_of_eq hg.symm)) hb); have n2_ := Aside0.mk (blk_below (g := gb474) (o := .cells #[.int .i64 t460, .int .i64 t461, .int .i64 t462, .string t463, .int .i64 t464, .int .i64 t465, .int .i64 t466, .int .i64 t467, .string t468, .slice Ao60 t469.length co60] 31 (0, 0)) (zB BK474.out) hb); have n3_ := Aside0.mk (below_step (qS6_2 HB.out) hb); have n4_ := Aside0.mk (hbox); have n5_ := Aside0.mk ((by rw [hg]; exact (below_size (qS6_2 HB.out)) : w.heap.size ≤ gb489)); have n6_ := n5_; have n7_ := Aside0.mk ((by rw [hg]; exact Nat.ne_of_lt (blk_lt (g := gb474) (o := .cells #[.int .i64 t460, .int .i64 t461, .int .i64 t462, .string t463, .int .i64 t464, .int .i64 t465, .int .i64 t466, .int .i64 t467, .string t468, .slice Ao60 t469.length co60] 31 (0, 0)) (zB BK474.out)) : gb474 ≠ gb489)); have n8_ := Aside0.mk ((by rw [hg]; exact Nat.ne_of_gt (blk_lt (g := gb474) (o := .cells #[.int .i64 t460, .int .i64 t461, .int .i64 t462, .string t463, .int .i64 t464, .int .i64 t465, .int .i64 t466, .int .i64 t467, .string t468, .slice Ao60 t469.length co60] 31 (0, 0)) (zB BK474.out)) : gb489 ≠ gb474)); clear HO471; clear HO486; clear BK474; clear HB; have HO471 := n0_; have HO486 := n1_; have BK474 := n2_; have HB := n3_; have BK489 := n4_; have GW489 := n5_; have GE489 := n6_; have NB474_489 := n7_; have NB489_474 := n8_; clear n0_ n1_ n2_ n3_ n4_ n5_ n6_ n7_ n8_; clear hb hbox hg; have hnb63 := NB489_474.out; have hnc63 := NB474_489.out; obtain ⟨hcz64_0, hcz64_1, hcz64_2, hcz64_3, hcz64_4, hcz64_5, hcz64_6, hcz64_7, hcz64_8, hcz64_9, hfz64_0, hfz64_1, hfz64_2, hfz64_3, hfz64_4, hfz64_5, hfz64_6, hfz64_7, hfz64_8, hfz64_9⟩ := zC10 BK489.out; obtain ⟨Ao65, co65, eo65⟩ := Kd.V_slice HO486.out; subst eo65; obtain ⟨hcz66_0, hcz66_1, hcz66_2, hcz66_3, hcz66_4, hcz66_5, hcz66_6, hcz66_7, hcz66_8, hcz66_9, hfz66_0, hfz66_1, hfz66_2, hfz66_3, hfz66_4, hfz66_5, hfz66_6, hfz66_7, hfz66_8, hfz66_9⟩ := zC10 BK474.out) | (go_at_call 13; (with_reducible refine (pannierlaw05_wakes.calls k  t490 _ ?side1 A56.out).mono ?_); (case side1 => exact gl_4_4 (qS6_3 HB.out) hG); rintro e w67 ⟨rfl, hb⟩; have n0_ := Aside0.mk (Kd.V_below (by (with_reducible repeat (first | apply Kd.V_alloc | apply Kd.V_drewN | apply Kd.V_drew)); exact (Kd.V_mono (Kd.V_far (p := ⟨gb489, 9, none⟩) (Kd.V_far (p := ⟨gb489, 8, none⟩) (Kd.V_far (p := ⟨gb489, 7, none⟩) (Kd.V_far (p := ⟨gb489, 6, none⟩) (Kd.V_far (p := ⟨gb489, 5, none⟩) (Kd.V_far (p := ⟨gb489, 4, none⟩) (Kd.V_far (p := ⟨gb489, 3, none⟩) (Kd.V_far (p := ⟨gb489, 2, none⟩) (Kd.V_far (p := ⟨gb489, 1, none⟩) (Kd.V_far (p := ⟨gb489, 0, none⟩) (Kd.V_mono HO471.out (fun k_ hk => (⟨hk, hk.2⟩ : _ ∧ k_ ≠ gb489))) (fun _ hk => hk.2) (.int .i64 t475)) (fun _ hk => hk.2) (.int .i64 t476)) (fun _ hk => hk.2) (.int .i64 t477)) (fun _ hk => hk.2) (.string t478)) (fun _ hk => hk.2) (.int .i64 t479)) (fun _ hk => hk.2) (.int .i64 t480)) (fun _ hk => hk.2) (.int .i64 t481)) (fun _ hk => hk.2) (.int .i64 t482)) (fun _ hk => hk.2) (.string t483)) (fun _ hk => hk.2) (.slice Ao65 t484.length co65)) (fun _ h_ => h_.1))) hb); have n1_ := Aside0.mk (Kd.V_below (by (with_reducible repeat (first | apply Kd.V_alloc | apply Kd.V_drewN | apply Kd.V_drew)); exact (Kd.V_mono (Kd.V_far (p := ⟨gb489, 9, none⟩) (Kd.V_far (p := ⟨gb489, 8, none⟩) (Kd.V_far (p := ⟨gb489, 7, none⟩) (Kd.V_far (p := ⟨gb489, 6, none⟩) (Kd.V_far (p := ⟨gb489, 5, none⟩) (Kd.V_far (p := ⟨gb489, 4, none⟩) (Kd.V_far (p := ⟨gb489, 3, none⟩) (Kd.V_far (p := ⟨gb489, 2, none⟩) (Kd.V_far (p := ⟨gb489, 1, none⟩) (Kd.V_far (p := ⟨gb489, 0, none⟩) (Kd.V_mono HO486.out (fun k_ hk => (⟨hk, hk.2⟩ : _ ∧ k_ ≠ gb489))) (fun _ hk => hk.2) (.int .i64 t475)) (fun _ hk => hk.2) (.int .i64 t476)) (fun _ hk => hk.2) (.int .i64 t477)) (fun _ hk => hk.2) (.string t478)) (fun _ hk => hk.2) (.int .i64 t479)) (fun _ hk => hk.2) (.int .i64 t480)) (fun _ hk => hk.2) (.int .i64 t481)) (fun _ hk => hk.2) (.int .i64 t482)) (fun _ hk => hk.2) (.string t483)) (fun _ hk => hk.2) (.slice Ao65 t484.length co65)) (fun _ h_ => h_.1))) hb); have n2_ := Aside0.mk (blk_below (g := gb474) (o := .cells #[.int .i64 t460, .int .i64 t461, .int .i64 t462, .string t463, .int .i64 t464, .int .i64 t465, .int .i64 t466, .int .i64 t467, .string t468, .slice Ao60 t469.length co60] 31 (0, 0)) (by refine zB (blk_far ?_ NB474_489.out _); refine zB ?_; refine blk_far ?_ NB474_489.out _; refine zB (blk_far ?_ NB474_489.out _); refine zB ?_; refine blk_far ?_ NB474_489.out _; refine zB (blk_far ?_ NB474_489.out _); refine zB ?_; refine blk_far ?_ NB474_489.out _; refine zB (blk_far ?_ NB474_489.out _); refine zB ?_; refine blk_far ?_ NB474_489.out _; refine zB (blk_far ?_ NB474_489.out _); refine zB (blk_far ?_ NB474_489.out _); refine zB ?_; exact BK474.out) hb); have n3_ := Aside0.mk (blk_below (g := gb489) (o := .cells #[.int .i64 t475, .int .i64 t476, .int .i64 t477, .string t478, .int .i64 t479, .int .i64 t480, .int .i64 t481, .int .i64 t482, .string t483, .slice Ao65 t484.length co65] 31 (0, 0)) (by exact zB (zP10 (zB BK489.out))) hb); have n4_ := Aside0.mk (below_step (qS6_3 HB.out) hb); clear HO471; clear HO486; clear BK474; clear BK489; clear HB; have HO471 := n0_; have HO486 := n1_; have BK474 := n2_; have BK489 := n3_; have HB := n4_; clear n0_ n1_ n2_ n3_ n4_; (try clear hb); (try clear hb2); (try clear hk); (try clear hi)))
                go_ret
                exact ⟨by first | rfl | (simp [errW_none, errW_some] <;> rfl) | (simp [*, errW_none, errW_some] <;> rfl), by repeat first | with_reducible exact HB.out | apply zS | refine below_set ?_ GE474.out | refine below_set ?_ GE489.out | exact HB.out⟩
              · rw [if_neg c55] at H
                have c55b0 : (t473 == 14) = false := beq_eq_false_iff_ne.mpr c55
                have c55b1 : (t473 != 14) = true := bne_iff_ne.mpr c55
                by_cases c68 : t488 = 0
                · rw [if_pos c68] at H
                  have c68b0 : (t488 == 0) = true := beq_iff_eq.mpr c68
                  have c68b1 : (t488 != 0) = false := bne_eq_false_iff_eq.mpr c68
                  clear c68
                  by_cases c69 : t472 ≥ 0
                  · rw [if_pos c69] at H
                    have c69b0 : decide (0 ≤ t472) = true := decide_eq_true c69
                    clear c69
                    replace H := Option.bind_eq_some_iff.mp H
                    obtain ⟨t491, A700, H⟩ := H
                    replace H : (some t491) = some r := H
                    have A70 := Aside0.mk A700
                    clear A700
                    obtain rfl := Option.some.inj H
                    go_enter Tryz.func6, Tryz.ntmps6
                    go_wp2_with (first | ((with_reducible refine gate_callee (f := 14) rfl ?_); refine goesL_ (some 15) rfl rfl Tryz.func14 (by kernel_rfl) rfl #[.string a0] rfl (by (try simp only [List.map_toArray, List.map_cons, List.map_nil]); first | done | rfl | (simp only [List.length_drop, List.length_take]; rfl)) ?_; (with_reducible refine (tree_Parse.calls k a0 t460 t461 t462 t463 t464 t465 t466 t467 t468 t469 t472 t473 _ ?side1 A5.out).mono ?_); (case side1 => exact gl_4_4 (qS6_1 HB.out) hG); rintro e w71 ⟨v470, rfl, ho0, hb⟩; refine ⟨_, rfl, ?_⟩; have n0_ := Aside0.mk (Kd.V_lower (Kd.V_mono (ok' := fun k_ => True) ho0 (fun k_ hk_ => trivial)) (below_size (qS6_1 HB.out))); have n1_ := Aside0.mk (below_step (qS6_1 HB.out) hb); clear HB; have HO471 := n0_; have HB := n1_; clear n0_ n1_; (try clear hb); (try clear hb2); (try clear hk); (try clear hi); (try clear ho0)) | ((with_reducible refine gate_dst (N := 3) rfl ?_); (try (refine gate_guard (by rfl) ?_; dsimp only)); refine box_event ?hg (N := 3) ?hd (cs := #[.int .i64 0, .int .i64 0, .int .i64 0, .string (⟨#[]⟩ : ByteArray), .int .i64 0, .int .i64 0, .int .i64 0, .int .i64 0, .string (⟨#[]⟩ : ByteArray), .slice none 0 0]) (t := 31) ?hr ?_; (case hd => rfl); (case hg => rfl); (case hr => first | (go_simp; done) | (go_simp; rfl)); intro gb474 hg w72 hbox hb; have n0_ := Aside0.mk (Kd.V_below (Kd.V_elderB (by (with_reducible repeat (first | apply Kd.V_alloc | apply Kd.V_drewN | apply Kd.V_drew)); exact HO471.out) gb474 (Nat.le_of_eq hg.symm)) hb); have n1_ := Aside0.mk (below_step (qS6_1 HB.out) hb); have n2_ := Aside0.mk (hbox); have n3_ := Aside0.mk ((by rw [hg]; exact (below_size (qS6_1 HB.out)) : w.heap.size ≤ gb474)); have n4_ := n3_; clear HO471; clear HB; have HO471 := n0_; have HB := n1_; have BK474 := n2_; have GW474 := n3_; have GE474 := n4_; clear n0_ n1_ n2_ n3_ n4_; clear hb hbox hg; obtain ⟨hcz73_0, hcz73_1, hcz73_2, hcz73_3, hcz73_4, hcz73_5, hcz73_6, hcz73_7, hcz73_8, hcz73_9, hfz73_0, hfz73_1, hfz73_2, hfz73_3, hfz73_4, hfz73_5, hfz73_6, hfz73_7, hfz73_8, hfz73_9⟩ := zC10 BK474.out; obtain ⟨Ao74, co74, eo74⟩ := Kd.V_slice HO471.out; subst eo74) | ((with_reducible refine gate_callee (f := 14) rfl ?_); refine goesL_ (some 23) rfl rfl Tryz.func14 (by kernel_rfl) rfl #[.string (((⟨#[40]⟩ : ByteArray) ++ a0) ++ (⟨#[41]⟩ : ByteArray))] rfl (by (try simp only [List.map_toArray, List.map_cons, List.map_nil]); first | done | rfl | (simp only [List.length_drop, List.length_take]; rfl)) ?_; (with_reducible refine (tree_Parse.calls k (((⟨#[40]⟩ : ByteArray) ++ a0) ++ (⟨#[41]⟩ : ByteArray)) t475 t476 t477 t478 t479 t480 t481 t482 t483 t484 t487 t488 _ ?side1 A8.out).mono ?_); (case side1 => exact gl_4_4 (qS6_2 HB.out) hG); rintro e w75 ⟨v485, rfl, ho0, hb⟩; refine ⟨_, rfl, ?_⟩; have n0_ := Aside0.mk (Kd.V_below (by (with_reducible repeat (first | apply Kd.V_alloc | apply Kd.V_drewN | apply Kd.V_drew)); exact (Kd.V_mono (Kd.V_far (p := ⟨gb474, 9, none⟩) (Kd.V_far (p := ⟨gb474, 8, none⟩) (Kd.V_far (p := ⟨gb474, 7, none⟩) (Kd.V_far (p := ⟨gb474, 6, none⟩) (Kd.V_far (p := ⟨gb474, 5, none⟩) (Kd.V_far (p := ⟨gb474, 4, none⟩) (Kd.V_far (p := ⟨gb474, 3, none⟩) (Kd.V_far (p := ⟨gb474, 2, none⟩) (Kd.V_far (p := ⟨gb474, 1, none⟩) (Kd.V_far (p := ⟨gb474, 0, none⟩) (Kd.V_mono HO471.out (fun k_ hk => (⟨hk, hk.2⟩ : _ ∧ k_ ≠ gb474))) (fun _ hk => hk.2) (.int .i64 t460)) (fun _ hk => hk.2) (.int .i64 t461)) (fun _ hk => hk.2) (.int .i64 t462)) (fun _ hk => hk.2) (.string t463)) (fun _ hk => hk.2) (.int .i64 t464)) (fun _ hk => hk.2) (.int .i64 t465)) (fun _ hk => hk.2) (.int .i64 t466)) (fun _ hk => hk.2) (.int .i64 t467)) (fun _ hk => hk.2) (.string t468)) (fun _ hk => hk.2) (.slice Ao74 t469.length co74)) (fun _ h_ => h_.1))) hb); have n1_ := Aside0.mk (Kd.V_lower (Kd.V_mono (ok' := fun k_ => k_ ≠ gb474) ho0 (fun k_ hk_ => (Kd.freshB (g := gb474) (o := .cells #[.int .i64 t460, .int .i64 t461, .int .i64 t462, .string t463, .int .i64 t464, .int .i64 t465, .int .i64 t466, .int .i64 t467, .string t468, .slice Ao74 t469.length co74] 31 (0, 0)) (by exact zB (zP10 (zB BK474.out))) k_ hk_))) (below_size (qS6_2 HB.out))); have n2_ := Aside0.mk (blk_below (g := gb474) (o := .cells #[.int .i64 t460, .int .i64 t461, .int .i64 t462, .string t463, .int .i64 t464, .int .i64 t465, .int .i64 t466, .int .i64 t467, .string t468, .slice Ao74 t469.length co74] 31 (0, 0)) (by exact zB (zP10 (zB BK474.out))) hb); have n3_ := Aside0.mk (below_step (qS6_2 HB.out) hb); clear HO471; clear BK474; clear HB; have HO471 := n0_; have HO486 := n1_; have BK474 := n2_; have HB := n3_; clear n0_ n1_ n2_ n3_; (try clear hb); (try clear hb2); (try clear hk); (try clear hi); (try clear ho0)) | ((with_reducible refine gate_dst (N := 6) rfl ?_); (try (refine gate_guard (by rfl) ?_; dsimp only)); refine box_event ?hg (N := 6) ?hd (cs := #[.int .i64 0, .int .i64 0, .int .i64 0, .string (⟨#[]⟩ : ByteArray), .int .i64 0, .int .i64 0, .int .i64 0, .int .i64 0, .string (⟨#[]⟩ : ByteArray), .slice none 0 0]) (t := 31) ?hr ?_; (case hd => rfl); (case hg => rfl); (case hr => first | (go_simp; done) | (go_simp; rfl)); intro gb489 hg w76 hbox hb; have n0_ := Aside0.mk (Kd.V_below (Kd.V_elderB (by (with_reducible repeat (first | apply Kd.V_alloc | apply Kd.V_drewN | apply Kd.V_drew)); exact HO471.out) gb489 (Nat.le_of_eq hg.symm)) hb); have n1_ := Aside0.mk (Kd.V_below (Kd.V_elderB (by (with_reducible repeat (first | apply Kd.V_alloc | apply Kd.V_drewN | apply Kd.V_drew)); exact HO486.out) gb489 (Nat.le_of_eq hg.symm)) hb); have n2_ := Aside0.mk (blk_below (g := gb474) (o := .cells #[.int .i64 t460, .int .i64 t461, .int .i64 t462, .string t463, .int .i64 t464, .int .i64 t465, .int .i64 t466, .int .i64 t467, .string t468, .slice Ao74 t469.length co74] 31 (0, 0)) (zB BK474.out) hb); have n3_ := Aside0.mk (below_step (qS6_2 HB.out) hb); have n4_ := Aside0.mk (hbox); have n5_ := Aside0.mk ((by rw [hg]; exact (below_size (qS6_2 HB.out)) : w.heap.size ≤ gb489)); have n6_ := n5_; have n7_ := Aside0.mk ((by rw [hg]; exact Nat.ne_of_lt (blk_lt (g := gb474) (o := .cells #[.int .i64 t460, .int .i64 t461, .int .i64 t462, .string t463, .int .i64 t464, .int .i64 t465, .int .i64 t466, .int .i64 t467, .string t468, .slice Ao74 t469.length co74] 31 (0, 0)) (zB BK474.out)) : gb474 ≠ gb489)); have n8_ := Aside0.mk ((by rw [hg]; exact Nat.ne_of_gt (blk_lt (g := gb474) (o := .cells #[.int .i64 t460, .int .i64 t461, .int .i64 t462, .string t463, .int .i64 t464, .int .i64 t465, .int .i64 t466, .int .i64 t467, .string t468, .slice Ao74 t469.length co74] 31 (0, 0)) (zB BK474.out)) : gb489 ≠ gb474)); clear HO471; clear HO486; clear BK474; clear HB; have HO471 := n0_; have HO486 := n1_; have BK474 := n2_; have HB := n3_; have BK489 := n4_; have GW489 := n5_; have GE489 := n6_; have NB474_489 := n7_; have NB489_474 := n8_; clear n0_ n1_ n2_ n3_ n4_ n5_ n6_ n7_ n8_; clear hb hbox hg; have hnb77 := NB489_474.out; have hnc77 := NB474_489.out; obtain ⟨hcz78_0, hcz78_1, hcz78_2, hcz78_3, hcz78_4, hcz78_5, hcz78_6, hcz78_7, hcz78_8, hcz78_9, hfz78_0, hfz78_1, hfz78_2, hfz78_3, hfz78_4, hfz78_5, hfz78_6, hfz78_7, hfz78_8, hfz78_9⟩ := zC10 BK489.out; obtain ⟨Ao79, co79, eo79⟩ := Kd.V_slice HO486.out; subst eo79; obtain ⟨hcz80_0, hcz80_1, hcz80_2, hcz80_3, hcz80_4, hcz80_5, hcz80_6, hcz80_7, hcz80_8, hcz80_9, hfz80_0, hfz80_1, hfz80_2, hfz80_3, hfz80_4, hfz80_5, hfz80_6, hfz80_7, hfz80_8, hfz80_9⟩ := zC10 BK474.out) | (go_at_call 13; (with_reducible refine (pannierlaw05_wakes.calls k  t491 _ ?side1 A70.out).mono ?_); (case side1 => exact gl_4_4 (qS6_3 HB.out) hG); rintro e w81 ⟨rfl, hb⟩; have n0_ := Aside0.mk (Kd.V_below (by (with_reducible repeat (first | apply Kd.V_alloc | apply Kd.V_drewN | apply Kd.V_drew)); exact (Kd.V_mono (Kd.V_far (p := ⟨gb489, 9, none⟩) (Kd.V_far (p := ⟨gb489, 8, none⟩) (Kd.V_far (p := ⟨gb489, 7, none⟩) (Kd.V_far (p := ⟨gb489, 6, none⟩) (Kd.V_far (p := ⟨gb489, 5, none⟩) (Kd.V_far (p := ⟨gb489, 4, none⟩) (Kd.V_far (p := ⟨gb489, 3, none⟩) (Kd.V_far (p := ⟨gb489, 2, none⟩) (Kd.V_far (p := ⟨gb489, 1, none⟩) (Kd.V_far (p := ⟨gb489, 0, none⟩) (Kd.V_mono HO471.out (fun k_ hk => (⟨hk, hk.2⟩ : _ ∧ k_ ≠ gb489))) (fun _ hk => hk.2) (.int .i64 t475)) (fun _ hk => hk.2) (.int .i64 t476)) (fun _ hk => hk.2) (.int .i64 t477)) (fun _ hk => hk.2) (.string t478)) (fun _ hk => hk.2) (.int .i64 t479)) (fun _ hk => hk.2) (.int .i64 t480)) (fun _ hk => hk.2) (.int .i64 t481)) (fun _ hk => hk.2) (.int .i64 t482)) (fun _ hk => hk.2) (.string t483)) (fun _ hk => hk.2) (.slice Ao79 t484.length co79)) (fun _ h_ => h_.1))) hb); have n1_ := Aside0.mk (Kd.V_below (by (with_reducible repeat (first | apply Kd.V_alloc | apply Kd.V_drewN | apply Kd.V_drew)); exact (Kd.V_mono (Kd.V_far (p := ⟨gb489, 9, none⟩) (Kd.V_far (p := ⟨gb489, 8, none⟩) (Kd.V_far (p := ⟨gb489, 7, none⟩) (Kd.V_far (p := ⟨gb489, 6, none⟩) (Kd.V_far (p := ⟨gb489, 5, none⟩) (Kd.V_far (p := ⟨gb489, 4, none⟩) (Kd.V_far (p := ⟨gb489, 3, none⟩) (Kd.V_far (p := ⟨gb489, 2, none⟩) (Kd.V_far (p := ⟨gb489, 1, none⟩) (Kd.V_far (p := ⟨gb489, 0, none⟩) (Kd.V_mono HO486.out (fun k_ hk => (⟨hk, hk.2⟩ : _ ∧ k_ ≠ gb489))) (fun _ hk => hk.2) (.int .i64 t475)) (fun _ hk => hk.2) (.int .i64 t476)) (fun _ hk => hk.2) (.int .i64 t477)) (fun _ hk => hk.2) (.string t478)) (fun _ hk => hk.2) (.int .i64 t479)) (fun _ hk => hk.2) (.int .i64 t480)) (fun _ hk => hk.2) (.int .i64 t481)) (fun _ hk => hk.2) (.int .i64 t482)) (fun _ hk => hk.2) (.string t483)) (fun _ hk => hk.2) (.slice Ao79 t484.length co79)) (fun _ h_ => h_.1))) hb); have n2_ := Aside0.mk (blk_below (g := gb474) (o := .cells #[.int .i64 t460, .int .i64 t461, .int .i64 t462, .string t463, .int .i64 t464, .int .i64 t465, .int .i64 t466, .int .i64 t467, .string t468, .slice Ao74 t469.length co74] 31 (0, 0)) (by refine zB (blk_far ?_ NB474_489.out _); refine zB ?_; refine blk_far ?_ NB474_489.out _; refine zB (blk_far ?_ NB474_489.out _); refine zB ?_; refine blk_far ?_ NB474_489.out _; refine zB (blk_far ?_ NB474_489.out _); refine zB ?_; refine blk_far ?_ NB474_489.out _; refine zB (blk_far ?_ NB474_489.out _); refine zB ?_; refine blk_far ?_ NB474_489.out _; refine zB (blk_far ?_ NB474_489.out _); refine zB (blk_far ?_ NB474_489.out _); refine zB ?_; exact BK474.out) hb); have n3_ := Aside0.mk (blk_below (g := gb489) (o := .cells #[.int .i64 t475, .int .i64 t476, .int .i64 t477, .string t478, .int .i64 t479, .int .i64 t480, .int .i64 t481, .int .i64 t482, .string t483, .slice Ao79 t484.length co79] 31 (0, 0)) (by exact zB (zP10 (zB BK489.out))) hb); have n4_ := Aside0.mk (below_step (qS6_3 HB.out) hb); clear HO471; clear HO486; clear BK474; clear BK489; clear HB; have HO471 := n0_; have HO486 := n1_; have BK474 := n2_; have BK489 := n3_; have HB := n4_; clear n0_ n1_ n2_ n3_ n4_; (try clear hb); (try clear hb2); (try clear hk); (try clear hi)))
                    go_ret
                    exact ⟨by first | rfl | (simp [errW_none, errW_some] <;> rfl) | (simp [*, errW_none, errW_some] <;> rfl), by repeat first | with_reducible exact HB.out | apply zS | refine below_set ?_ GE474.out | refine below_set ?_ GE489.out | exact HB.out⟩
                  · rw [if_neg c69] at H
                    exact absurd H (by simp)
                · rw [if_neg c68] at H
                  have c68b0 : (t488 == 0) = false := beq_eq_false_iff_ne.mpr c68
                  have c68b1 : (t488 != 0) = true := bne_iff_ne.mpr c68
                  replace H := Option.bind_eq_some_iff.mp H
                  obtain ⟨t492, A820, H⟩ := H
                  replace H : (some t492) = some r := H
                  have A82 := Aside0.mk A820
                  clear A820
                  obtain rfl := Option.some.inj H
                  go_enter Tryz.func6, Tryz.ntmps6
                  go_wp2_with (first | ((with_reducible refine gate_callee (f := 14) rfl ?_); refine goesL_ (some 15) rfl rfl Tryz.func14 (by kernel_rfl) rfl #[.string a0] rfl (by (try simp only [List.map_toArray, List.map_cons, List.map_nil]); first | done | rfl | (simp only [List.length_drop, List.length_take]; rfl)) ?_; (with_reducible refine (tree_Parse.calls k a0 t460 t461 t462 t463 t464 t465 t466 t467 t468 t469 t472 t473 _ ?side1 A5.out).mono ?_); (case side1 => exact gl_4_4 (qS6_1 HB.out) hG); rintro e w83 ⟨v470, rfl, ho0, hb⟩; refine ⟨_, rfl, ?_⟩; have n0_ := Aside0.mk (Kd.V_lower (Kd.V_mono (ok' := fun k_ => True) ho0 (fun k_ hk_ => trivial)) (below_size (qS6_1 HB.out))); have n1_ := Aside0.mk (below_step (qS6_1 HB.out) hb); clear HB; have HO471 := n0_; have HB := n1_; clear n0_ n1_; (try clear hb); (try clear hb2); (try clear hk); (try clear hi); (try clear ho0)) | ((with_reducible refine gate_dst (N := 3) rfl ?_); (try (refine gate_guard (by rfl) ?_; dsimp only)); refine box_event ?hg (N := 3) ?hd (cs := #[.int .i64 0, .int .i64 0, .int .i64 0, .string (⟨#[]⟩ : ByteArray), .int .i64 0, .int .i64 0, .int .i64 0, .int .i64 0, .string (⟨#[]⟩ : ByteArray), .slice none 0 0]) (t := 31) ?hr ?_; (case hd => rfl); (case hg => rfl); (case hr => first | (go_simp; done) | (go_simp; rfl)); intro gb474 hg w84 hbox hb; have n0_ := Aside0.mk (Kd.V_below (Kd.V_elderB (by (with_reducible repeat (first | apply Kd.V_alloc | apply Kd.V_drewN | apply Kd.V_drew)); exact HO471.out) gb474 (Nat.le_of_eq hg.symm)) hb); have n1_ := Aside0.mk (below_step (qS6_1 HB.out) hb); have n2_ := Aside0.mk (hbox); have n3_ := Aside0.mk ((by rw [hg]; exact (below_size (qS6_1 HB.out)) : w.heap.size ≤ gb474)); have n4_ := n3_; clear HO471; clear HB; have HO471 := n0_; have HB := n1_; have BK474 := n2_; have GW474 := n3_; have GE474 := n4_; clear n0_ n1_ n2_ n3_ n4_; clear hb hbox hg; obtain ⟨hcz85_0, hcz85_1, hcz85_2, hcz85_3, hcz85_4, hcz85_5, hcz85_6, hcz85_7, hcz85_8, hcz85_9, hfz85_0, hfz85_1, hfz85_2, hfz85_3, hfz85_4, hfz85_5, hfz85_6, hfz85_7, hfz85_8, hfz85_9⟩ := zC10 BK474.out; obtain ⟨Ao86, co86, eo86⟩ := Kd.V_slice HO471.out; subst eo86) | ((with_reducible refine gate_callee (f := 14) rfl ?_); refine goesL_ (some 23) rfl rfl Tryz.func14 (by kernel_rfl) rfl #[.string (((⟨#[40]⟩ : ByteArray) ++ a0) ++ (⟨#[41]⟩ : ByteArray))] rfl (by (try simp only [List.map_toArray, List.map_cons, List.map_nil]); first | done | rfl | (simp only [List.length_drop, List.length_take]; rfl)) ?_; (with_reducible refine (tree_Parse.calls k (((⟨#[40]⟩ : ByteArray) ++ a0) ++ (⟨#[41]⟩ : ByteArray)) t475 t476 t477 t478 t479 t480 t481 t482 t483 t484 t487 t488 _ ?side1 A8.out).mono ?_); (case side1 => exact gl_4_4 (qS6_2 HB.out) hG); rintro e w87 ⟨v485, rfl, ho0, hb⟩; refine ⟨_, rfl, ?_⟩; have n0_ := Aside0.mk (Kd.V_below (by (with_reducible repeat (first | apply Kd.V_alloc | apply Kd.V_drewN | apply Kd.V_drew)); exact (Kd.V_mono (Kd.V_far (p := ⟨gb474, 9, none⟩) (Kd.V_far (p := ⟨gb474, 8, none⟩) (Kd.V_far (p := ⟨gb474, 7, none⟩) (Kd.V_far (p := ⟨gb474, 6, none⟩) (Kd.V_far (p := ⟨gb474, 5, none⟩) (Kd.V_far (p := ⟨gb474, 4, none⟩) (Kd.V_far (p := ⟨gb474, 3, none⟩) (Kd.V_far (p := ⟨gb474, 2, none⟩) (Kd.V_far (p := ⟨gb474, 1, none⟩) (Kd.V_far (p := ⟨gb474, 0, none⟩) (Kd.V_mono HO471.out (fun k_ hk => (⟨hk, hk.2⟩ : _ ∧ k_ ≠ gb474))) (fun _ hk => hk.2) (.int .i64 t460)) (fun _ hk => hk.2) (.int .i64 t461)) (fun _ hk => hk.2) (.int .i64 t462)) (fun _ hk => hk.2) (.string t463)) (fun _ hk => hk.2) (.int .i64 t464)) (fun _ hk => hk.2) (.int .i64 t465)) (fun _ hk => hk.2) (.int .i64 t466)) (fun _ hk => hk.2) (.int .i64 t467)) (fun _ hk => hk.2) (.string t468)) (fun _ hk => hk.2) (.slice Ao86 t469.length co86)) (fun _ h_ => h_.1))) hb); have n1_ := Aside0.mk (Kd.V_lower (Kd.V_mono (ok' := fun k_ => k_ ≠ gb474) ho0 (fun k_ hk_ => (Kd.freshB (g := gb474) (o := .cells #[.int .i64 t460, .int .i64 t461, .int .i64 t462, .string t463, .int .i64 t464, .int .i64 t465, .int .i64 t466, .int .i64 t467, .string t468, .slice Ao86 t469.length co86] 31 (0, 0)) (by exact zB (zP10 (zB BK474.out))) k_ hk_))) (below_size (qS6_2 HB.out))); have n2_ := Aside0.mk (blk_below (g := gb474) (o := .cells #[.int .i64 t460, .int .i64 t461, .int .i64 t462, .string t463, .int .i64 t464, .int .i64 t465, .int .i64 t466, .int .i64 t467, .string t468, .slice Ao86 t469.length co86] 31 (0, 0)) (by exact zB (zP10 (zB BK474.out))) hb); have n3_ := Aside0.mk (below_step (qS6_2 HB.out) hb); clear HO471; clear BK474; clear HB; have HO471 := n0_; have HO486 := n1_; have BK474 := n2_; have HB := n3_; clear n0_ n1_ n2_ n3_; (try clear hb); (try clear hb2); (try clear hk); (try clear hi); (try clear ho0)) | ((with_reducible refine gate_dst (N := 6) rfl ?_); (try (refine gate_guard (by rfl) ?_; dsimp only)); refine box_event ?hg (N := 6) ?hd (cs := #[.int .i64 0, .int .i64 0, .int .i64 0, .string (⟨#[]⟩ : ByteArray), .int .i64 0, .int .i64 0, .int .i64 0, .int .i64 0, .string (⟨#[]⟩ : ByteArray), .slice none 0 0]) (t := 31) ?hr ?_; (case hd => rfl); (case hg => rfl); (case hr => first | (go_simp; done) | (go_simp; rfl)); intro gb489 hg w88 hbox hb; have n0_ := Aside0.mk (Kd.V_below (Kd.V_elderB (by (with_reducible repeat (first | apply Kd.V_alloc | apply Kd.V_drewN | apply Kd.V_drew)); exact HO471.out) gb489 (Nat.le_of_eq hg.symm)) hb); have n1_ := Aside0.mk (Kd.V_below (Kd.V_elderB (by (with_reducible repeat (first | apply Kd.V_alloc | apply Kd.V_drewN | apply Kd.V_drew)); exact HO486.out) gb489 (Nat.le_of_eq hg.symm)) hb); have n2_ := Aside0.mk (blk_below (g := gb474) (o := .cells #[.int .i64 t460, .int .i64 t461, .int .i64 t462, .string t463, .int .i64 t464, .int .i64 t465, .int .i64 t466, .int .i64 t467, .string t468, .slice Ao86 t469.length co86] 31 (0, 0)) (zB BK474.out) hb); have n3_ := Aside0.mk (below_step (qS6_2 HB.out) hb); have n4_ := Aside0.mk (hbox); have n5_ := Aside0.mk ((by rw [hg]; exact (below_size (qS6_2 HB.out)) : w.heap.size ≤ gb489)); have n6_ := n5_; have n7_ := Aside0.mk ((by rw [hg]; exact Nat.ne_of_lt (blk_lt (g := gb474) (o := .cells #[.int .i64 t460, .int .i64 t461, .int .i64 t462, .string t463, .int .i64 t464, .int .i64 t465, .int .i64 t466, .int .i64 t467, .string t468, .slice Ao86 t469.length co86] 31 (0, 0)) (zB BK474.out)) : gb474 ≠ gb489)); have n8_ := Aside0.mk ((by rw [hg]; exact Nat.ne_of_gt (blk_lt (g := gb474) (o := .cells #[.int .i64 t460, .int .i64 t461, .int .i64 t462, .string t463, .int .i64 t464, .int .i64 t465, .int .i64 t466, .int .i64 t467, .string t468, .slice Ao86 t469.length co86] 31 (0, 0)) (zB BK474.out)) : gb489 ≠ gb474)); clear HO471; clear HO486; clear BK474; clear HB; have HO471 := n0_; have HO486 := n1_; have BK474 := n2_; have HB := n3_; have BK489 := n4_; have GW489 := n5_; have GE489 := n6_; have NB474_489 := n7_; have NB489_474 := n8_; clear n0_ n1_ n2_ n3_ n4_ n5_ n6_ n7_ n8_; clear hb hbox hg; have hnb89 := NB489_474.out; have hnc89 := NB474_489.out; obtain ⟨hcz90_0, hcz90_1, hcz90_2, hcz90_3, hcz90_4, hcz90_5, hcz90_6, hcz90_7, hcz90_8, hcz90_9, hfz90_0, hfz90_1, hfz90_2, hfz90_3, hfz90_4, hfz90_5, hfz90_6, hfz90_7, hfz90_8, hfz90_9⟩ := zC10 BK489.out; obtain ⟨Ao91, co91, eo91⟩ := Kd.V_slice HO486.out; subst eo91; obtain ⟨hcz92_0, hcz92_1, hcz92_2, hcz92_3, hcz92_4, hcz92_5, hcz92_6, hcz92_7, hcz92_8, hcz92_9, hfz92_0, hfz92_1, hfz92_2, hfz92_3, hfz92_4, hfz92_5, hfz92_6, hfz92_7, hfz92_8, hfz92_9⟩ := zC10 BK474.out) | (go_at_call 13; (with_reducible refine (pannierlaw05_wakes.calls k  t492 _ ?side1 A82.out).mono ?_); (case side1 => exact gl_4_4 (qS6_3 HB.out) hG); rintro e w93 ⟨rfl, hb⟩; have n0_ := Aside0.mk (Kd.V_below (by (with_reducible repeat (first | apply Kd.V_alloc | apply Kd.V_drewN | apply Kd.V_drew)); exact (Kd.V_mono (Kd.V_far (p := ⟨gb489, 9, none⟩) (Kd.V_far (p := ⟨gb489, 8, none⟩) (Kd.V_far (p := ⟨gb489, 7, none⟩) (Kd.V_far (p := ⟨gb489, 6, none⟩) (Kd.V_far (p := ⟨gb489, 5, none⟩) (Kd.V_far (p := ⟨gb489, 4, none⟩) (Kd.V_far (p := ⟨gb489, 3, none⟩) (Kd.V_far (p := ⟨gb489, 2, none⟩) (Kd.V_far (p := ⟨gb489, 1, none⟩) (Kd.V_far (p := ⟨gb489, 0, none⟩) (Kd.V_mono HO471.out (fun k_ hk => (⟨hk, hk.2⟩ : _ ∧ k_ ≠ gb489))) (fun _ hk => hk.2) (.int .i64 t475)) (fun _ hk => hk.2) (.int .i64 t476)) (fun _ hk => hk.2) (.int .i64 t477)) (fun _ hk => hk.2) (.string t478)) (fun _ hk => hk.2) (.int .i64 t479)) (fun _ hk => hk.2) (.int .i64 t480)) (fun _ hk => hk.2) (.int .i64 t481)) (fun _ hk => hk.2) (.int .i64 t482)) (fun _ hk => hk.2) (.string t483)) (fun _ hk => hk.2) (.slice Ao91 t484.length co91)) (fun _ h_ => h_.1))) hb); have n1_ := Aside0.mk (Kd.V_below (by (with_reducible repeat (first | apply Kd.V_alloc | apply Kd.V_drewN | apply Kd.V_drew)); exact (Kd.V_mono (Kd.V_far (p := ⟨gb489, 9, none⟩) (Kd.V_far (p := ⟨gb489, 8, none⟩) (Kd.V_far (p := ⟨gb489, 7, none⟩) (Kd.V_far (p := ⟨gb489, 6, none⟩) (Kd.V_far (p := ⟨gb489, 5, none⟩) (Kd.V_far (p := ⟨gb489, 4, none⟩) (Kd.V_far (p := ⟨gb489, 3, none⟩) (Kd.V_far (p := ⟨gb489, 2, none⟩) (Kd.V_far (p := ⟨gb489, 1, none⟩) (Kd.V_far (p := ⟨gb489, 0, none⟩) (Kd.V_mono HO486.out (fun k_ hk => (⟨hk, hk.2⟩ : _ ∧ k_ ≠ gb489))) (fun _ hk => hk.2) (.int .i64 t475)) (fun _ hk => hk.2) (.int .i64 t476)) (fun _ hk => hk.2) (.int .i64 t477)) (fun _ hk => hk.2) (.string t478)) (fun _ hk => hk.2) (.int .i64 t479)) (fun _ hk => hk.2) (.int .i64 t480)) (fun _ hk => hk.2) (.int .i64 t481)) (fun _ hk => hk.2) (.int .i64 t482)) (fun _ hk => hk.2) (.string t483)) (fun _ hk => hk.2) (.slice Ao91 t484.length co91)) (fun _ h_ => h_.1))) hb); have n2_ := Aside0.mk (blk_below (g := gb474) (o := .cells #[.int .i64 t460, .int .i64 t461, .int .i64 t462, .string t463, .int .i64 t464, .int .i64 t465, .int .i64 t466, .int .i64 t467, .string t468, .slice Ao86 t469.length co86] 31 (0, 0)) (by refine zB (blk_far ?_ NB474_489.out _); refine zB ?_; refine blk_far ?_ NB474_489.out _; refine zB (blk_far ?_ NB474_489.out _); refine zB ?_; refine blk_far ?_ NB474_489.out _; refine zB (blk_far ?_ NB474_489.out _); refine zB ?_; refine blk_far ?_ NB474_489.out _; refine zB (blk_far ?_ NB474_489.out _); refine zB ?_; refine blk_far ?_ NB474_489.out _; refine zB (blk_far ?_ NB474_489.out _); refine zB (blk_far ?_ NB474_489.out _); refine zB ?_; exact BK474.out) hb); have n3_ := Aside0.mk (blk_below (g := gb489) (o := .cells #[.int .i64 t475, .int .i64 t476, .int .i64 t477, .string t478, .int .i64 t479, .int .i64 t480, .int .i64 t481, .int .i64 t482, .string t483, .slice Ao91 t484.length co91] 31 (0, 0)) (by exact zB (zP10 (zB BK489.out))) hb); have n4_ := Aside0.mk (below_step (qS6_3 HB.out) hb); clear HO471; clear HO486; clear BK474; clear BK489; clear HB; have HO471 := n0_; have HO486 := n1_; have BK474 := n2_; have BK489 := n3_; have HB := n4_; clear n0_ n1_ n2_ n3_ n4_; (try clear hb); (try clear hb2); (try clear hk); (try clear hi)))
                  go_ret
                  exact ⟨by first | rfl | (simp [errW_none, errW_some] <;> rfl) | (simp [*, errW_none, errW_some] <;> rfl), by repeat first | with_reducible exact HB.out | apply zS | refine below_set ?_ GE474.out | refine below_set ?_ GE489.out | exact HB.out⟩
            · rw [if_neg c54] at H
              exact absurd H (by simp)
          · rw [if_neg c53] at H
            exact absurd H (by simp)
      · rw [if_neg c7] at H
        exact absurd H (by simp)
    · rw [if_neg c6] at H
      exact absurd H (by simp)
end Go.Proofs.YtpcnaoipenclnaaGreatDoor.P

namespace Go.Proofs.YtpcnaoipenclnaaGreatDoor.P
open Go.RowKit Go.Proofs.YtpcnaoipenclnaaGreatDoorW.PrintWords Go.Proofs.YtpcnaoipenclnaaGreatDoorW.PrintLast Go.Proofs.YtpcnaoipenclnaaGreatDoorW.PrintMore
open M (I64)
set_option linter.unusedVariables false
set_option linter.unusedSimpArgs false
abbrev LTok := S109
def cutL : Nat → List UInt8 → Nat → List LTok × Int × Int
  | 0, _, _ => ([], 0, 0)
  | _ + 1, [], _ => ([], 0, 0)
  | d + 1, c :: r, n =>
    if kindOf (c.toNat : Int) = 1 then cutL d r (n + 1) else
      match oneV ⟨(c :: r).toArray⟩ with
      | (ta, tb, tc, _, tm) =>
        if tm = 0 then ([], (n : Int), 12) else
          match cutL d ((c :: r).drop tm.toNat) (n + tm.toNat) with
          | (ts, p, e) => if e = 0 then (⟨ta, tb, tc, (n : Int)⟩ :: ts, p, e) else ([], p, e)
def cutR (R : List LTok × Int × Int) : List LTok × Int × Int := if R.2.2 = 0 then (R.1, 0, 0) else ([], R.2.1, R.2.2)
theorem xrest_size (s : ByteArray) (n : Nat) : (s.extract n s.size).size = s.size - n := by rw [ByteArray.size_extract]; omega
theorem xrest (s : ByteArray) (n : Nat) : s.extract n s.size = ⟨(s.data.toList.drop n).toArray⟩ := by
  apply ByteArray.ext
  rw [← Array.toList_inj, ByteArray.data_extract, Array.toList_extract, List.extract_eq_take_drop]
  rw [List.take_of_length_le (by simp)]
theorem xtextF_len (s : ByteArray) : ∀ (d i : Nat) (out : List UInt8), ∃ w : Nat, (textF s d i out).2 = (w : Int) ∧ w ≤ s.size
  | 0, i, out => ⟨0, rfl, Nat.zero_le _⟩
  | d + 1, i, out => by
    unfold textF
    split
    · split
      · split
        · exact ⟨i + 1, rfl, by omega⟩
        · exact xtextF_len s d (i + 2) _
      · exact xtextF_len s d (i + 1) _
    · exact ⟨0, rfl, Nat.zero_le _⟩
theorem xoneV_len (s : ByteArray) (h : 0 < s.size) : ∃ w : Nat, (oneV s).2.2.2.2 = (w : Int) ∧ w ≤ s.size := by
  unfold oneV
  split
  · split
    · exact ⟨_, rfl, (runN_le digP s s.size 0 (by omega)).1⟩
    · exact ⟨0, rfl, Nat.zero_le _⟩
  · split
    · exact xtextF_len s _ _ _
    · split
      · exact ⟨_, rfl, (runN_le wordP s s.size 0 (by omega)).1⟩
      · split
        · exact ⟨_, rfl, (signs_le s h).2⟩
        · exact ⟨0, rfl, Nat.zero_le _⟩
theorem xone_some (s : ByteArray) (n : Nat) (hs : s.size ≤ 1000000000) (hn : n < s.size) : lex_one.f (s.extract n s.size) = some (oneV (s.extract n s.size)) := by
  unfold lex_one.f; rw [if_pos (by rw [xrest_size]; omega)]
theorem xkind_any (s : ByteArray) (i k : Nat) (hk : 20 ≤ k) : lex_kind.f k (bt s (i : Int)) = some (kindOf (bt s (i : Int))) := at_rounds (lex_kind.mono _) hk (kind_bt s i)
theorem xbt (s : ByteArray) (n : Nat) (h : n < s.size) : bt s (n : Int) = (((s.data.toList[n]'(by simpa using h)).toNat : Nat) : Int) := by
  rw [bt_bu]
  unfold bu
  rw [List.getD_eq_getElem?_getD, List.getElem?_eq_getElem (by simpa using h)]
  rfl
def addR (l : List LTok) (R : List LTok × Int × Int) : List LTok × Int × Int := if R.2.2 = 0 then (l ++ R.1, 0, 0) else ([], R.2.1, R.2.2)
theorem addR_ok (l ts : List LTok) (p : Int) : addR l (ts, p, 0) = (l ++ ts, 0, 0) := rfl
theorem addR_no (l ts : List LTok) (p : Int) {e : Int} (h : e ≠ 0) : addR l (ts, p, e) = ([], p, e) := if_neg h
theorem cutL_loop (s : ByteArray) (hs : s.size ≤ 1000000) : ∀ (d n k : Nat) (l : List LTok), s.size - n ≤ d → n ≤ s.size → d + 20 < k → l.length ≤ n →
    lex_Cut.l0 k s l (n : Int) = some (addR l (cutL d (s.data.toList.drop n) n)) := by
  intro d
  induction d with
  | zero =>
    intro n k l hd hn hk hl
    obtain ⟨k, rfl⟩ : ∃ m, k = m + 1 := ⟨k - 1, by omega⟩
    rw [lex_Cut.l0, if_neg (by omega), cutL, addR_ok, List.append_nil]
  | succ d ih =>
    intro n k l hd hn hk hl
    obtain ⟨k, rfl⟩ : ∃ m, k = m + 1 := ⟨k - 1, by omega⟩
    rw [lex_Cut.l0]
    by_cases hlt : n < s.size
    · have hlt' : n < s.data.toList.length := by simpa using hlt
      have hd2 : s.data.toList.drop n = s.data.toList[n] :: s.data.toList.drop (n + 1) := List.drop_eq_getElem_cons hlt'
      rw [if_pos (by omega), if_pos (by omega), xkind_any s n k (by omega), Option.bind_some, hd2, cutL, ← xbt s n hlt]
      by_cases hb : kindOf (bt s (n : Int)) = 1
      · rw [if_pos hb, if_pos hb, show wrap64 ((n : Int) + 1) = ((n + 1 : Nat) : Int) by rw [M.wrap64_id (by unfold I64; omega)]; omega]
        exact ih (n + 1) k l (by omega) (by omega) (by omega) (by omega)
      · rw [if_neg hb, if_neg hb, if_pos (by omega)]
        have ho : lex_one.f (s.extract ((n : Int)).toNat s.size) = some (oneV (s.extract n s.size)) := xone_some s n (by omega) hlt
        obtain ⟨w, hw, hwl⟩ := xoneV_len (s.extract n s.size) (by rw [xrest_size]; omega)
        rw [xrest_size] at hwl
        rw [ho, Option.bind_some, ← hd2, ← xrest]
        clear ho
        generalize oneV (s.extract n s.size) = t at *
        obtain ⟨ta, tb, tc, td, tm⟩ := t
        have hw' : tm = (w : Int) := hw
        subst hw'
        dsimp only
        by_cases hz : (w : Int) = 0
        · rw [if_pos hz, if_pos hz]; rfl
        · rw [if_neg hz, if_neg hz, if_pos (by omega)]
          have hwr : wrap64 ((n : Int) + (w : Int)) = ((n + w : Nat) : Int) := by rw [M.wrap64_id (by unfold I64; omega)]; omega
          have b3 : (l ++ [(⟨ta, tb, tc, (n : Int)⟩ : LTok)]).length ≤ n + w := by rw [List.length_append, List.length_singleton]; omega
          have := ih (n + w) k (l ++ [(⟨ta, tb, tc, (n : Int)⟩ : LTok)]) (by omega) (by omega) (by omega) b3
          rw [hwr, this, List.drop_drop, show ((w : Int)).toNat = w by omega]
          generalize cutL d (s.data.toList.drop (n + w)) (n + w) = R
          obtain ⟨ts, p, e⟩ := R
          dsimp only
          by_cases he : e = 0
          · subst he; rw [if_pos rfl, addR_ok, addR_ok, List.append_assoc]; rfl
          · rw [if_neg he, addR_no _ _ _ he, addR_no _ _ _ he]
    · rw [if_neg (by omega), List.drop_of_length_le (by simpa using Nat.le_of_not_lt hlt), cutL, addR_ok, List.append_nil]
theorem cut_list (s : ByteArray) (hs : s.size ≤ 300) (k : Nat) (hk : 400 ≤ k) : lex_Cut.f k s = some (cutR (cutL s.size s.data.toList 0)) := by
  unfold lex_Cut.f
  rw [if_neg (by omega)]
  have h := cutL_loop s (by omega) s.size 0 k [] (by omega) (Nat.zero_le _) (by omega) (Nat.le_refl _)
  rw [List.drop_zero] at h
  exact h
end Go.Proofs.YtpcnaoipenclnaaGreatDoor.P

namespace Go.Proofs.YtpcnaoipenclnaaGreatDoor.P
open Go.RowKit Go.Proofs.YtpcnaoipenclnaaGreatDoorW.PrintWords Go.Proofs.YtpcnaoipenclnaaGreatDoorW.PrintLast Go.Proofs.YtpcnaoipenclnaaGreatDoorW.PrintMore
open M (I64)
set_option linter.unusedVariables false
set_option linter.unusedSimpArgs false
theorem cp_runN (p : Int → Bool) (s : ByteArray) (d i : Nat) : runN p s (d + 1) i = if i < s.size then (if p (kindOf (bt s (i : Int))) = true then runN p s d (i + 1) else i) else i := rfl
theorem cp_textF (s : ByteArray) (d i : Nat) (out : List UInt8) : textF s (d + 1) i out = if i < s.size then (if bu s i = 34 then (if i + 1 = s.size ∨ ¬ bu s (i + 1) = 34 then (⟨out.toArray⟩, ((i + 1 : Nat) : Int)) else textF s d (i + 2) (out ++ [34])) else textF s d (i + 1) (out ++ [bu s i])) else (⟨#[]⟩, 0) := rfl
def closeB : ByteArray := ⟨#[41]⟩
theorem cp_size (r : ByteArray) : (r ++ closeB).size = r.size + 1 := by rw [ByteArray.size_append]; rfl
theorem cp_list (r : ByteArray) : (r ++ closeB).data.toList = r.data.toList ++ [41] := by simp [closeB, ByteArray.data_append]
theorem cp_bu (r : ByteArray) (i : Nat) (h : i < r.size) : bu (r ++ closeB) i = bu r i := by
  unfold bu
  rw [cp_list, List.getD_eq_getElem?_getD, List.getD_eq_getElem?_getD, List.getElem?_append_left (by simpa using h)]
theorem cp_bu_last (r : ByteArray) : bu (r ++ closeB) r.size = 41 := by
  unfold bu
  have hlen : r.data.toList.length = r.size := Array.length_toList
  rw [cp_list, List.getD_eq_getElem?_getD, List.getElem?_append_right (by omega), hlen, Nat.sub_self]; rfl
theorem cp_rest (s : ByteArray) (n m : Nat) : (s.extract n m).data.toList = (s.data.toList.drop n).take (m - n) := by
  rw [ByteArray.data_extract, Array.toList_extract, List.extract_eq_take_drop]
theorem cp_part (r : ByteArray) (m : Nat) (h : m ≤ r.size) : (r ++ closeB).extract 0 m = r.extract 0 m := by
  apply ByteArray.ext
  apply Array.toList_inj.1
  have hlen : r.data.toList.length = r.size := Array.length_toList
  rw [cp_rest, cp_rest, cp_list, List.drop_zero, List.drop_zero, List.take_append_of_le_length (by omega)]
theorem cp_41 : kindOf (41 : Int) = 5 := by decide +kernel
theorem cp_40 : kindOf (40 : Int) = 5 := by decide +kernel
theorem cp_run (p : Int → Bool) (hp : p 5 = false) (r : ByteArray) : ∀ d i, i + d = r.size → runN p (r ++ closeB) (d + 1) i = runN p r d i
  | 0, i, h => by
    have hi : i = r.size := by omega
    subst hi
    rw [cp_runN, cp_size, if_pos (by omega), bt_bu, cp_bu_last]
    have : kindOf (((41 : UInt8).toNat : Nat) : Int) = 5 := cp_41
    rw [this, hp, if_neg (by decide)]; rfl
  | d + 1, i, h => by
    rw [cp_runN p (r ++ closeB) (d + 1) i, cp_runN p r d i, cp_size, if_pos (show i < r.size + 1 by omega), if_pos (show i < r.size by omega), bt_bu, bt_bu, cp_bu r i (by omega), cp_run p hp r d (i + 1) (by omega)]
theorem cp_text (r : ByteArray) : ∀ (d i : Nat) (out : List UInt8), r.size < i + d → i ≤ r.size + 1 → textF (r ++ closeB) (d + 1) i out = textF r d i out := by
  intro d
  induction d with
  | zero =>
    intro i out h hi
    rw [cp_textF, cp_size, if_neg (by omega)]; rfl
  | succ d ih =>
    intro i out h hi
    rw [cp_textF (r ++ closeB) (d + 1) i, cp_textF r d i, cp_size]
    by_cases h1 : i < r.size
    · rw [if_pos (show i < r.size + 1 by omega), if_pos h1, cp_bu r i h1]
      by_cases hq : bu r i = 34
      · rw [if_pos hq, if_pos hq]
        have hc : (i + 1 = r.size + 1 ∨ ¬ bu (r ++ closeB) (i + 1) = 34) ↔ (i + 1 = r.size ∨ ¬ bu r (i + 1) = 34) := by
          by_cases h2 : i + 1 = r.size
          · rw [h2, cp_bu_last]
            exact ⟨fun _ => .inl rfl, fun _ => .inr (by decide)⟩
          · rw [cp_bu r (i + 1) (by omega)]
            exact ⟨fun h => h.elim (fun h => by omega) .inr, fun h => h.elim (fun h => absurd h h2) .inr⟩
        by_cases hx : (i + 1 = r.size ∨ ¬ bu r (i + 1) = 34)
        · rw [if_pos (hc.2 hx), if_pos hx]
        · rw [if_neg (fun h => hx (hc.1 h)), if_neg hx]
          exact ih (i + 2) _ (by omega) (by omega)
      · rw [if_neg hq, if_neg hq]
        exact ih (i + 1) _ (by omega) (by omega)
    · rw [if_neg h1]
      by_cases h2 : i < r.size + 1
      · have hi2 : i = r.size := by omega
        subst hi2
        rw [if_pos h2, cp_bu_last, if_neg (by decide), cp_textF, cp_size, if_neg (by omega)]
      · rw [if_neg h2]
theorem cp_two (s : ByteArray) (h : 2 ≤ s.size) : (s.extract 0 2).toList = [bu s 0, bu s 1] := by
  rw [ByteArray.toList_eq, cp_rest, List.drop_zero]
  have hlen : s.data.toList.length = s.size := Array.length_toList
  unfold bu
  match e : s.data.toList, hlen with
  | [], hl => rw [e] at hlen; simp at hlen; omega
  | [a], hl => rw [e] at hlen; simp at hlen; omega
  | a :: b :: r, hl => rfl
theorem cp_signs (r : ByteArray) (h : 0 < r.size) : signsV (r ++ closeB) = signsV r := by
  unfold signsV
  rw [cp_size, if_pos (show r.size + 1 > 1 by omega)]
  by_cases h1 : r.size > 1
  · rw [if_pos h1, cp_part r 2 (by omega)]
  · have h2 : r.size = 1 := by omega
    have hp : ((r ++ closeB).extract 0 2).toList = [bu (r ++ closeB) 0, 41] := by
      rw [cp_two (r ++ closeB) (by rw [cp_size]; omega)]
      have := cp_bu_last r
      rw [h2] at this
      rw [this]
    rw [if_neg h1, hp]
    generalize bu (r ++ closeB) 0 = b
    rw [if_neg (by simp), if_neg (by simp), if_neg (by simp)]
theorem cp_one (r : ByteArray) (h : 0 < r.size) : oneV (r ++ closeB) = oneV r := by
  have hd : digN (r ++ closeB) = digN r := by unfold digN; rw [cp_size]; exact cp_run digP rfl r r.size 0 (by omega)
  have hw : wordN (r ++ closeB) = wordN r := by unfold wordN; rw [cp_size]; exact cp_run wordP rfl r r.size 0 (by omega)
  have hb : bt (r ++ closeB) 0 = bt r 0 := by
    have h1 := bt_bu (r ++ closeB) 0
    have h2 := bt_bu r 0
    rw [cp_bu r 0 h, ← h2] at h1
    exact h1
  have hd2 : digN r ≤ r.size := (runN_le digP r r.size 0 (by omega)).1
  have hw2 : wordN r ≤ r.size := (runN_le wordP r r.size 0 (by omega)).1
  have ht : textF (r ++ closeB) ((r ++ closeB).size + 1) 1 [] = textF r (r.size + 1) 1 [] := by rw [cp_size]; exact cp_text r (r.size + 1) 1 [] (by omega) (by omega)
  unfold oneV
  rw [hb, hd, hw, ht, cp_signs r h, cp_part r _ hd2, cp_part r _ hw2, cp_part r _ (signs_le r h).2]
theorem cp_app (l : List UInt8) : (⟨(l ++ [41]).toArray⟩ : ByteArray) = (⟨l.toArray⟩ : ByteArray) ++ closeB := by
  apply ByteArray.ext
  rw [ByteArray.data_append, closeB, ← List.append_toArray]
theorem cp_len (l : List UInt8) : (⟨l.toArray⟩ : ByteArray).size = l.length := rfl
theorem one_w (c : UInt8) (r : List UInt8) : ∃ w : Nat, (oneV ⟨(c :: r).toArray⟩).2.2.2.2 = (w : Int) ∧ w ≤ r.length + 1 := xoneV_len ⟨(c :: r).toArray⟩ (by rw [cp_len, List.length_cons]; omega)
theorem cp_open (r : List UInt8) : oneV ⟨(40 :: r).toArray⟩ = (4, 0, ⟨#[40]⟩, 0, 1) := by
  have hb : bt ⟨(40 :: r).toArray⟩ 0 = 40 := by
    have h1 := bt_bu ⟨(40 :: r).toArray⟩ 0
    exact h1.trans rfl
  have hs : signsV ⟨(40 :: r).toArray⟩ = 1 := by
    unfold signsV
    by_cases h1 : (⟨(40 :: r).toArray⟩ : ByteArray).size > 1
    · rw [if_pos h1, cp_two _ (by omega)]
      have : bu ⟨(40 :: r).toArray⟩ 0 = 40 := rfl
      rw [this]
      generalize bu ⟨(40 :: r).toArray⟩ 1 = b
      rw [if_neg (by simp), if_neg (by simp), if_neg (by simp)]
    · rw [if_neg h1]
  unfold oneV
  rw [hb, cp_40, if_neg (by decide), if_neg (by decide), if_neg (by decide), if_pos rfl, hs]
  have : (⟨(40 :: r).toArray⟩ : ByteArray).extract 0 1 = ⟨#[40]⟩ := by
    apply ByteArray.ext
    apply Array.toList_inj.1
    rw [cp_rest]; rfl
  rw [this]; rfl
theorem cutL_nil (d n : Nat) : cutL d [] n = ([], 0, 0) := by cases d <;> rfl
def shT (t : LTok) : LTok := ⟨t.f0, t.f1, t.f2, t.f3 + 1⟩
theorem cutL_shift : ∀ (d : Nat) (l : List UInt8) (n : Nat) (ts : List LTok) (p : Int), cutL d l n = (ts, p, 0) → cutL d l (n + 1) = (ts.map shT, 0, 0) := by
  intro d
  induction d with
  | zero => intro l n ts p h; rw [cutL] at h ⊢; cases h; rfl
  | succ d ih =>
    intro l n ts p h
    cases l with
    | nil => rw [cutL_nil] at h ⊢; cases h; rfl
    | cons c r =>
      rw [cutL] at h ⊢
      by_cases hk : kindOf (c.toNat : Int) = 1
      · rw [if_pos hk] at h ⊢; exact ih _ _ _ _ h
      · rw [if_neg hk] at h ⊢
        generalize oneV ⟨(c :: r).toArray⟩ = t at *
        obtain ⟨ta, tb, tc, td, tm⟩ := t
        dsimp only at h ⊢
        by_cases hz : tm = 0
        · rw [if_pos hz] at h; cases h
        · rw [if_neg hz] at h ⊢
          cases e : cutL d (List.drop tm.toNat (c :: r)) (n + tm.toNat) with
          | mk ts2 x =>
            obtain ⟨p2, e2⟩ := x
            rw [e] at h
            dsimp only at h
            by_cases he : e2 = 0
            · subst he
              rw [if_pos rfl] at h
              have h2 := ih _ _ _ _ e
              rw [show n + 1 + tm.toNat = n + tm.toNat + 1 by omega, h2]
              dsimp only
              rw [if_pos rfl]
              cases h
              rw [List.map_cons]
              rfl
            · rw [if_neg he] at h; cases h; exact absurd rfl he
theorem cutL_snoc : ∀ (d : Nat) (l : List UInt8) (n : Nat) (ts : List LTok) (p : Int), l.length ≤ d → cutL d l n = (ts, p, 0) → cutL (d + 1) (l ++ [41]) n = (ts ++ [⟨4, 0, ⟨#[41]⟩, ((n + l.length : Nat) : Int)⟩], 0, 0) := by
  have h41 : ∀ n d, cutL (d + 1) [41] n = ([⟨4, 0, ⟨#[41]⟩, (n : Int)⟩], 0, 0) := by
    intro n d
    have h1 : oneV ⟨([41] : List UInt8).toArray⟩ = (4, 0, ⟨#[41]⟩, 0, 1) := by decide +kernel
    rw [cutL, if_neg (by decide +kernel), h1]
    dsimp only
    rw [if_neg (by decide), show List.drop (Int.toNat 1) ([41] : List UInt8) = [] from rfl, cutL_nil]
    rfl
  intro d
  induction d with
  | zero =>
    intro l n ts p hl h
    obtain rfl : l = [] := List.length_eq_zero_iff.1 (by omega)
    rw [cutL_nil] at h
    cases h
    exact h41 n 0
  | succ d ih =>
    intro l n ts p hl h
    cases l with
    | nil =>
      rw [cutL_nil] at h
      cases h
      exact h41 n (d + 1)
    | cons c r =>
      rw [List.length_cons] at hl
      rw [cutL] at h
      rw [List.cons_append, cutL]
      by_cases hk : kindOf (c.toNat : Int) = 1
      · rw [if_pos hk] at h ⊢
        rw [ih r (n + 1) ts p (by omega) h, List.length_cons, show n + 1 + r.length = n + (r.length + 1) by omega]
      · rw [if_neg hk] at h ⊢
        rw [← List.cons_append, cp_app, cp_one _ (by rw [cp_len, List.length_cons]; omega)]
        obtain ⟨w, hw, hwl⟩ := one_w c r
        generalize oneV ⟨(c :: r).toArray⟩ = t at *
        obtain ⟨ta, tb, tc, td, tm⟩ := t
        have hw' : tm = (w : Int) := hw
        subst hw'
        dsimp only at h ⊢
        by_cases hz : (w : Int) = 0
        · rw [if_pos hz] at h; cases h
        · rw [if_neg hz] at h ⊢
          rw [Int.toNat_natCast] at h ⊢
          cases e : cutL d (List.drop w (c :: r)) (n + w) with
          | mk ts2 x =>
            obtain ⟨p2, e2⟩ := x
            rw [e] at h
            dsimp only at h
            by_cases he : e2 = 0
            · subst he
              rw [if_pos rfl] at h
              have h2 := ih _ _ _ _ (by rw [List.length_drop, List.length_cons]; omega) e
              rw [List.drop_append_of_le_length (by rw [List.length_cons]; omega), h2]
              dsimp only
              rw [if_pos rfl]
              cases h
              rw [List.length_drop, List.length_cons, List.cons_append, show n + w + (r.length + 1 - w) = n + (r.length + 1) by omega]
            · rw [if_neg he] at h; cases h; exact absurd rfl he
theorem cut_paren (l : List UInt8) (ts : List LTok) (p : Int) (h : cutL l.length l 0 = (ts, p, 0)) :
    cutL (40 :: (l ++ [41])).length (40 :: (l ++ [41])) 0 = (⟨4, 0, ⟨#[40]⟩, 0⟩ :: (ts.map shT ++ [⟨4, 0, ⟨#[41]⟩, ((1 + l.length : Nat) : Int)⟩]), 0, 0) := by
  have h1 := cutL_shift _ _ _ _ _ h
  have h2 := cutL_snoc _ _ _ _ _ (Nat.le_refl _) h1
  have h40 : ¬ kindOf (((40 : UInt8).toNat : Nat) : Int) = 1 := by decide +kernel
  have hl : (l ++ [41]).length = l.length + 1 := by rw [List.length_append]; rfl
  have hd : List.drop (Int.toNat 1) ((40 : UInt8) :: (l ++ [41])) = l ++ [41] := rfl
  have h3 : cutL (l ++ [41]).length (l ++ [41]) (0 + Int.toNat 1) = _ := (congrArg (fun d => cutL d (l ++ [41]) (0 + 1)) hl).trans h2
  rw [List.length_cons, cutL, if_neg h40, cp_open]
  dsimp only
  rw [if_neg (show ¬ (1 : Int) = 0 by decide), hd, h3]
  rfl
def NameB (s : ByteArray) : Prop := 0 < s.size ∧ ∀ i, i < s.size → (65 ≤ (bu s i).toNat ∧ (bu s i).toNat ≤ 90) ∨ (0 < i ∧ 48 ≤ (bu s i).toNat ∧ (bu s i).toNat ≤ 57)
structure TokOk (L : Nat) (t : LTok) : Prop where
  num : t.f0 = 1 → 0 ≤ t.f1
  name : t.f0 = 3 → NameB t.f2
  size : t.f2.size ≤ L
  at_ : 0 ≤ t.f3
end Go.Proofs.YtpcnaoipenclnaaGreatDoor.P

namespace Go.Proofs.YtpcnaoipenclnaaGreatDoor.P
open Go.RowKit Go.Proofs.YtpcnaoipenclnaaGreatDoorW.PrintWords Go.Proofs.YtpcnaoipenclnaaGreatDoorW.PrintLast Go.Proofs.YtpcnaoipenclnaaGreatDoorW.PrintMore
open M (I64)
set_option linter.unusedVariables false
set_option linter.unusedSimpArgs false
abbrev opsL : List ByteArray := [⟨#[61]⟩, ⟨#[60, 62]⟩, ⟨#[60]⟩, ⟨#[60, 61]⟩, ⟨#[62]⟩, ⟨#[62, 61]⟩, ⟨#[43]⟩, ⟨#[45]⟩, ⟨#[38]⟩, ⟨#[42]⟩, ⟨#[47]⟩, ⟨#[37]⟩, ⟨#[94]⟩]
theorem inL_iff (l : List ByteArray) (s : ByteArray) : inL l s = true ↔ ∃ x ∈ l, x.toList = s.toList := by
  unfold inL; rw [List.any_eq_true]; simp
theorem inL_sub {l m : List ByteArray} (h : ∀ x ∈ l, x ∈ m) (s : ByteArray) (hs : inL l s = true) : inL m s = true := by
  rw [inL_iff] at hs ⊢
  obtain ⟨x, hx, e⟩ := hs
  exact ⟨x, h x hx, e⟩
theorem six_ops : ∀ s, inL sixL s = true → inL opsL s = true := inL_sub (by intro x hx; simp only [sixL, opsL, List.mem_cons, List.not_mem_nil, or_false] at hx ⊢; rcases hx with h | h | h | h | h | h <;> simp [h])
theorem sum_ops : ∀ s, inL sumL s = true → inL opsL s = true := inL_sub (by intro x hx; simp only [sumL, opsL, List.mem_cons, List.not_mem_nil, or_false] at hx ⊢; rcases hx with h | h | h <;> simp [h])
theorem prod_ops : ∀ s, inL prodL s = true → inL opsL s = true := inL_sub (by intro x hx; simp only [prodL, opsL, List.mem_cons, List.not_mem_nil, or_false] at hx ⊢; rcases hx with h | h | h <;> simp [h])
theorem allF_any {k j : Nat} (h : k ≤ j) {t : TN} {r : Bool} (e : allF k t = some r) : allF j t = some r := at_rounds (g := fun k => allF k t) (fun k r h => allF_mono k t r h) h e
theorem sameF_any {k j : Nat} (h : k ≤ j) {a b : TN} {r : Bool} (e : sameF k a b = some r) : sameF j a b = some r := at_rounds (g := fun k => sameF k a b) (fun k r h => sameF_mono k a b r h) h e
theorem depO_any {k j : Nat} (h : k ≤ j) {t : TN} {r : Int} (e : depO k t = some r) : depO j t = some r := at_rounds (g := fun k => depO k t) (fun k r h => tree_depth.mono _ _ _ _ _ _ _ _ _ _ k r h) h e
theorem oneO_any {k j : Nat} (h : k ≤ j) {t : TN} {r : Bool} (e : oneO k t = some r) : oneO j t = some r := at_rounds (g := fun k => oneO k t) (fun k r h => tree_one.mono _ _ _ _ _ _ _ _ _ _ k r h) h e
structure Fine (c : Nat) (t : TN) : Prop where
  few : ∀ (v : Int) (k : Nat), (c : Int) ≤ v → c < k → fewF k t v = (true, v - c)
  all : ∃ k, allF k t = some true
  dep : ∃ k d, depO k t = some d ∧ 1 ≤ d ∧ d ≤ c
  same : ∃ k, sameF k t t = some true
structure FineL (c : Nat) (l : List TN) : Prop where
  few : ∀ (v : Int) (k : Nat), (c : Int) ≤ v → c < k → fewL (fewF k) l v = (true, v - c)
  all : ∃ k, ∀ x ∈ l, allF k x = some true
  dep : ∃ k, ∀ x ∈ l, ∃ d, depO k x = some d ∧ 1 ≤ d ∧ d ≤ c
  same : ∃ k, ∀ x ∈ l, sameF k x x = some true
theorem fineL_nil : FineL 0 [] := ⟨fun v k _ _ => by rw [fewL]; simp, ⟨0, fun x hx => by cases hx⟩, ⟨0, fun x hx => by cases hx⟩, ⟨0, fun x hx => by cases hx⟩⟩
theorem fewL_app {f : TN → Int → Bool × Int} {b : TN} : ∀ (l : List TN) (v v' : Int), fewL f l v = (true, v') → fewL f (l ++ [b]) v = fewL f [b] v' := by
  intro l
  induction l with
  | nil => intro v v' h; rw [fewL] at h; cases h; rfl
  | cons a l ih =>
    intro v v' h
    rw [List.cons_append, fewL]
    rw [fewL] at h
    cases e : f a v with
    | mk x y =>
      rw [e] at h
      cases x with
      | false => dsimp only at h; cases h
      | true => dsimp only at h ⊢; exact ih _ _ h
theorem fineL_snoc {c d : Nat} {l : List TN} {b : TN} (h : FineL c l) (hb : Fine d b) : FineL (c + d) (l ++ [b]) := by
  refine ⟨fun v k h1 h2 => ?_, ?_, ?_, ?_⟩
  · rw [fewL_app l v _ (h.few v k (by omega) (by omega)), fewL, hb.few (v - c) k (by omega) (by omega)]
    dsimp only
    rw [fewL]
    congr 1; omega
  · obtain ⟨k, hk⟩ := h.all
    obtain ⟨j, hj⟩ := hb.all
    refine ⟨k + j, fun x hx => ?_⟩
    rcases List.mem_append.1 hx with hx | hx
    · exact allF_any (by omega) (hk x hx)
    · rw [List.mem_singleton.1 hx]; exact allF_any (by omega) hj
  · obtain ⟨k, hk⟩ := h.dep
    obtain ⟨j, e, hj, h1, h2⟩ := hb.dep
    refine ⟨k + j, fun x hx => ?_⟩
    rcases List.mem_append.1 hx with hx | hx
    · obtain ⟨d', g1, g2, g3⟩ := hk x hx
      exact ⟨d', depO_any (by omega) g1, g2, by omega⟩
    · rw [List.mem_singleton.1 hx]; exact ⟨e, depO_any (by omega) hj, h1, by omega⟩
  · obtain ⟨k, hk⟩ := h.same
    obtain ⟨j, hj⟩ := hb.same
    refine ⟨k + j, fun x hx => ?_⟩
    rcases List.mem_append.1 hx with hx | hx
    · exact sameF_any (by omega) (hk x hx)
    · rw [List.mem_singleton.1 hx]; exact sameF_any (by omega) hj
theorem allL_of {f : TN → Option Bool} : ∀ (l : List TN), (∀ x ∈ l, f x = some true) → allL f l = some true := by
  intro l
  induction l with
  | nil => intro _; rfl
  | cons a l ih =>
    intro h
    rw [allL, h a (List.mem_cons_self ..)]
    exact ih fun x hx => h x (List.mem_cons_of_mem _ hx)
theorem sameL_of {f : TN → TN → Option Bool} : ∀ (l : List TN), (∀ x ∈ l, f x x = some true) → sameL f l l = some true := by
  intro l
  induction l with
  | nil => intro _; rfl
  | cons a l ih =>
    intro h
    rw [sameL, h a (List.mem_cons_self ..)]
    exact ih fun x hx => h x (List.mem_cons_of_mem _ hx)
theorem rdN {l : List TN} {i : Nat} (h : i < l.length) : rd_T31 l (i : Int) = l[i] := by
  unfold rd_T31; simp [List.getD_eq_getElem?_getD, h]
theorem dep_loop (l : List TN) (hl : l.length ≤ 1000) (K : Nat) (B : Nat) (hM : B ≤ 1000) (h : ∀ x ∈ l, ∃ d, depO K x = some d ∧ 1 ≤ d ∧ d ≤ B) : ∀ (j i k : Nat) (m : Int), i + j = l.length → K + j < k → 0 ≤ m → m ≤ B → ∃ d, tree_depth.l0 k m l (l.length : Int) (i : Int) = some d ∧ 1 ≤ d ∧ d ≤ (B : Int) + 1 := by
  intro j
  induction j with
  | zero =>
    intro i k m hi hk h0 h1
    obtain ⟨k, rfl⟩ : ∃ e, k = e + 1 := ⟨k - 1, by omega⟩
    rw [tree_depth.l0, if_neg (by omega)]
    refine ⟨_, rfl, ?_⟩
    rw [M.wrap64_id (by unfold I64; omega)]
    omega
  | succ j ih =>
    intro i k m hi hk h0 h1
    obtain ⟨k, rfl⟩ : ∃ e, k = e + 1 := ⟨k - 1, by omega⟩
    rw [tree_depth.l0, if_pos (by omega), if_pos (by omega), if_pos (by omega), rdN (by omega)]
    obtain ⟨d, e, d1, d2⟩ := h _ (List.getElem_mem (show i < l.length by omega))
    have e2 := depO_any (show K ≤ k by omega) e
    unfold depO at e2
    rw [e2, Option.bind_some, show wrap64 ((i : Int) + 1) = ((i + 1 : Nat) : Int) by rw [M.wrap64_id (by unfold I64; omega)]; omega]
    have hm : 0 ≤ mx m d ∧ mx m d ≤ B := by unfold mx; split <;> omega
    exact ih (i + 1) k (mx m d) (by omega) (by omega) hm.1 hm.2
theorem fine_node {c : Nat} {t : TN} (h : FineL c t.f4) (ho : oneO 2000 t = some true) (hc : c ≤ 1000) (hl : t.f4.length ≤ 1000) : Fine (c + 1) t := by
  refine ⟨fun v k h1 h2 => ?_, ?_, ?_, ?_⟩
  · obtain ⟨k, rfl⟩ : ∃ e, k = e + 1 := ⟨k - 1, by omega⟩
    rw [fewF, if_neg (by omega), h.few (v - 1) k (by omega) (by omega)]
    congr 1; omega
  · obtain ⟨k, hk⟩ := h.all
    refine ⟨k + 2000 + 1, ?_⟩
    rw [allF, oneO_any (by omega) ho]
    exact allL_of _ fun x hx => allF_any (by omega) (hk x hx)
  · obtain ⟨K, hK⟩ := h.dep
    obtain ⟨d, e, h1, h2⟩ := dep_loop t.f4 hl K c hc hK t.f4.length 0 (K + t.f4.length + 1) 0 (by omega) (by omega) (by omega) (by omega)
    refine ⟨K + t.f4.length + 1 + 1, d, ?_, h1, by omega⟩
    unfold depO
    rw [tree_depth.f]
    exact e
  · obtain ⟨k, hk⟩ := h.same
    refine ⟨k + 1, ?_⟩
    have hv : valO t t = some true := by unfold valO value_Same.f; simp
    rw [sameF, if_pos rfl, hv]
    dsimp only
    rw [if_pos ⟨rfl, rfl, rfl, rfl⟩, if_pos (by simp), if_pos rfl]
    exact sameL_of _ hk
theorem fine_leaf {t : TN} (h : t.f4 = []) (ho : oneO 2000 t = some true) : Fine 1 t := fine_node (c := 0) (by rw [h]; exact fineL_nil) ho (by omega) (by rw [h]; decide)
theorem nil_list : (⟨#[]⟩ : ByteArray).toList = [] := by rw [ByteArray.toList_eq]
theorem fine_int {v : Int} (h : 0 ≤ v) : Fine 1 (constT ⟨2, v, ⟨#[]⟩⟩) := by
  refine fine_leaf rfl ?_
  simp [oneO, constT, tree_one.f, tree_fields.f, value_Good.f, nil_list, h]
theorem fine_bool (v : Int) (h : v = 0 ∨ v = 1) : Fine 1 (constT ⟨1, v, ⟨#[]⟩⟩) := by
  refine fine_leaf rfl ?_
  rcases h with rfl | rfl <;> simp [oneO, constT, tree_one.f, tree_fields.f, value_Good.f, nil_list]
theorem fine_text {s : ByteArray} (h : s.size ≤ 200) : Fine 1 (constT ⟨3, 0, s⟩) := by
  refine fine_leaf rfl ?_
  have : (s.size : Int) ≤ 200 := by omega
  simp [oneO, constT, tree_one.f, tree_fields.f, value_Good.f, nil_list, h, this]
theorem cellF_good {toks : List Tok} {n : Nat} {r c : Int} (h : cellF toks n = some (r, c)) : addr_Good.f r c = some true := by
  unfold cellF at h
  cases e : toks[n]? with
  | none => rw [e] at h; cases h
  | some tk =>
    rw [e] at h
    dsimp only at h
    by_cases h3 : tk.f0 = 3
    · rw [if_pos h3] at h
      by_cases ho : opensV toks n = true
      · rw [if_pos ho] at h; cases h
      · rw [if_neg ho] at h
        unfold addr_Parse.f at h
        by_cases hs : tk.f2.size ≤ 9223372036854775807
        · rw [if_pos hs] at h
          unfold parseS at h
          by_cases h6 : 6 < tk.f2.data.toList.length
          · rw [if_pos h6] at h; cases h
          · rw [if_neg h6] at h
            cases ea : ap tk.f2.data.toList 0 0 with
            | none => rw [ea] at h; cases h
            | some x =>
              obtain ⟨r2, c2⟩ := x
              rw [ea] at h
              dsimp only at h
              by_cases hc : cellB r2 c2 = true ∧ nameS r2 c2 = tk.f2.data.toList
              · rw [if_pos hc] at h
                cases h
                rw [good_eq, hc.1]
              · rw [if_neg hc] at h; cases h
        · rw [if_neg hs] at h; cases h
    · rw [if_neg h3] at h; cases h
theorem fine_cell {r c : Int} (h : addr_Good.f r c = some true) : Fine 1 (cellT r c) := by
  refine fine_leaf rfl ?_
  simp [oneO, cellT, tree_one.f, tree_fields.f, value_Same.f, nil_list, h]
theorem fine_range {r c x y u1 u2 u3 u4 : Int} {b : Bool} (h1 : addr_Good.f r c = some true) (h2 : addr_Good.f x y = some true) (hm : addr_Made.f r c x y = some (u1, u2, u3, u4, b)) : Fine 1 (rangeT u1 u2 u3 u4) := by
  refine fine_leaf rfl ?_
  have hf : addr_Fine.f u1 u2 u3 u4 = some true := by
    unfold addr_Made.f at hm
    rw [h1, h2] at hm
    simp only [Option.bind_some, if_true, Option.some.injEq, Prod.mk.injEq] at hm
    obtain ⟨rfl, rfl, rfl, rfl, -⟩ := hm
    rw [good_eq] at h1 h2
    have g1 := (cellB_iff r c).1 (Option.some.inj h1)
    have g2 := (cellB_iff x y).1 (Option.some.inj h2)
    have k1 : cellB (mn r x) (mn c y) = true := by rw [cellB_iff]; unfold mn; repeat' split
                                                   all_goals omega
    have k2 : cellB (mx r x) (mx c y) = true := by rw [cellB_iff]; unfold mx; repeat' split
                                                   all_goals omega
    have k3 : mn r x ≤ mx r x := by unfold mn mx; repeat' split
                                    all_goals omega
    have k4 : mn c y ≤ mx c y := by unfold mn mx; repeat' split
                                    all_goals omega
    unfold addr_Fine.f
    rw [good_eq, good_eq, k1, k2]
    simp [k3, k4]
  simp [oneO, rangeT, tree_one.f, tree_fields.f, value_Same.f, nil_list, hf]
theorem fine_neg {d : Nat} {a : TN} (h : Fine d a) (hd : d + 1 ≤ 1000) : Fine (d + 1) (negT a) := by
  have hL := fineL_snoc fineL_nil h
  rw [Nat.zero_add] at hL
  refine fine_node hL ?_ (by omega) (by show 1 ≤ 1000; decide)
  simp [oneO, negT, tree_one.f, tree_fields.f, value_Same.f, nil_list]
theorem fine_two {c d : Nat} {op : ByteArray} {a b : TN} (ha : Fine c a) (hb : Fine d b) (hcd : c + d + 1 ≤ 1000) (ho : inL opsL op = true) : Fine (c + d + 1) (twoT op a b) := by
  have hL := fineL_snoc (fineL_snoc fineL_nil ha) hb
  rw [Nat.zero_add] at hL
  refine fine_node hL ?_ (by omega) (by show 2 ≤ 1000; decide)
  have hc := contains_eq opsL op (by decide)
  rw [ho] at hc
  simp [oneO, twoT, tree_one.f, tree_fields.f, value_Same.f, nil_list, hc]
theorem op_loop (s : ByteArray) (hs : NameB s) (h8 : s.size ≤ 8) : ∀ (j i k : Nat), i + j = s.size → j < k → tree_op.l0 k s (s.size : Int) (i : Int) = some true := by
  intro j
  induction j with
  | zero =>
    intro i k hi hk
    obtain ⟨k, rfl⟩ : ∃ e, k = e + 1 := ⟨k - 1, by omega⟩
    have hne : ¬ s.toList = ([] : List UInt8) := by
      rw [ByteArray.toList_eq]; intro e
      have h1 : s.data.toList.length = s.size := Array.length_toList
      rw [e] at h1
      have := hs.1
      simp at h1; omega
    rw [tree_op.l0, if_neg (by omega), if_neg hne, decide_eq_true (by omega)]
  | succ j ih =>
    intro i k hi hk
    obtain ⟨k, rfl⟩ : ∃ e, k = e + 1 := ⟨k - 1, by omega⟩
    have hw : wrap64 ((i : Int) + 1) = ((i + 1 : Nat) : Int) := by rw [M.wrap64_id (by unfold I64; omega)]; omega
    have hI := ih (i + 1) k (by omega) (by omega)
    have hb := hs.2 i (by omega)
    rw [tree_op.l0, if_pos (by omega), if_pos (by omega), if_pos (by omega), bt_bu, hw, hI]
    rcases hb with hb | hb
    · rw [if_pos (by omega), if_pos (by omega)]
    · rw [if_neg (show ¬ ((bu s i).toNat : Int) ≥ 65 by omega), if_neg (show ¬ (i : Int) = 0 by omega), if_neg (show ¬ ((bu s i).toNat : Int) < 48 by omega), if_neg (show ¬ ((bu s i).toNat : Int) > 57 by omega)]
theorem fine_call {c : Nat} {s : ByteArray} {l : List TN} (h : FineL c l) (hs : NameB s) (h8 : s.size ≤ 8) (hl : l.length ≤ 10) (hc : c ≤ 1000) : Fine (c + 1) (callT s l) := by
  refine fine_node (t := callT s l) h ?_ hc (by show l.length ≤ 1000; omega)
  have ho : tree_op.f 2000 s = some true := op_loop s hs h8 s.size 0 2000 (by omega) (by omega)
  have hl' : (l.length : Int) ≤ 10 := by omega
  have hl0 : (0 : Int) ≤ (l.length : Int) := by omega
  simp [oneO, callT, tree_one.f, tree_fields.f, value_Same.f, nil_list, ho, hl', hl0, hl]
end Go.Proofs.YtpcnaoipenclnaaGreatDoor.P

namespace Go.Proofs.YtpcnaoipenclnaaGreatDoor.P
open Go.RowKit Go.Proofs.YtpcnaoipenclnaaGreatDoorW.PrintWords Go.Proofs.YtpcnaoipenclnaaGreatDoorW.PrintLast Go.Proofs.YtpcnaoipenclnaaGreatDoorW.PrintMore
set_option linter.unusedVariables false
set_option linter.unusedSimpArgs false
def GoodP (toks : List Tok) (F : PF) : Prop := ∀ n, n ≤ toks.length → ∀ t m, F n = (.ok t, m) → ∃ c, 1 ≤ c ∧ n + c ≤ m ∧ Fine c t
theorem sign_in {toks : List Tok} {n m : Nat} {l : List ByteArray} {s : ByteArray} (h : signV toks n l = (s, true, m)) : inL l s = true := by
  unfold signV at h
  cases e : toks[n]? with
  | none => rw [e] at h; cases h
  | some t =>
    rw [e] at h
    dsimp only at h
    by_cases h4 : t.f0 = 4
    · rw [if_pos h4] at h
      by_cases h5 : inL l t.f2 = true
      · rw [if_pos h5] at h; cases h; exact h5
      · rw [if_neg h5] at h; cases h
    · rw [if_neg h4] at h; cases h
theorem good_row {toks : List Tok} (hlen : toks.length ≤ 1000) {F : PF} (hF : Fit toks F) (h : GoodP toks F) (l : List ByteArray) (hl : ∀ s, inL l s = true → inL opsL s = true) (n0 : Nat) : ∀ (k : Nat) (a : TN) (n c : Nat), n ≤ toks.length → 1 ≤ c → n0 + c ≤ n → Fine c a → ∀ t m, rowF toks F l k a n = (.ok t, m) → ∃ c, 1 ≤ c ∧ n0 + c ≤ m ∧ Fine c t := by
  intro k
  induction k with
  | zero => intro a n c _ _ _ _ t m e; rw [rowF] at e; cases e
  | succ k ih =>
    intro a n c hn hc hnc ha t m e
    rw [rowF] at e
    rcases sign_cases toks n l with e1 | ⟨s, e1, hlt⟩
    · rw [e1] at e
      dsimp only at e
      cases e; exact ⟨c, hc, hnc, ha⟩
    · rw [e1] at e
      dsimp only at e
      cases e2 : F (n + 1) with
      | mk r m2 =>
        have hle := hF.le (by omega) e2
        rw [e2] at e
        cases r with
        | bad p c => dsimp only at e; cases e
        | ok b =>
          dsimp only at e
          obtain ⟨d, hd, hnd, hb⟩ := h _ (by omega) _ _ e2
          exact ih _ _ (c + d + 1) hle.2 (by omega) (by omega) (fine_two ha hb (by omega) (hl _ (sign_in e1))) _ _ e
theorem good_rows {toks : List Tok} (hlen : toks.length ≤ 1000) {F : PF} (hF : Fit toks F) (h : GoodP toks F) (l : List ByteArray) (hl : ∀ s, inL l s = true → inL opsL s = true) : GoodP toks (rowsF toks F l) := by
  intro n hn t m e
  unfold rowsF at e
  cases e2 : F n with
  | mk r m2 =>
    have hle := hF.le hn e2
    rw [e2] at e
    cases r with
    | bad p c => dsimp only at e; cases e
    | ok b =>
      dsimp only at e
      obtain ⟨d, hd, hnd, hb⟩ := h _ hn _ _ e2
      exact good_row hlen hF h l hl n _ b m2 d hle.2 hd hnd hb _ _ e
theorem good_form {toks : List Tok} (hlen : toks.length ≤ 1000) {F : PF} (hF : Fit toks F) (h : GoodP toks F) : GoodP toks (formF toks F) := by
  intro n hn t m e
  unfold formF at e
  cases e2 : F n with
  | mk r m2 =>
    have hle := hF.le hn e2
    rw [e2] at e
    cases r with
    | bad p c => dsimp only at e; cases e
    | ok b =>
      dsimp only at e
      obtain ⟨c, hc, hnc, ha⟩ := h _ hn _ _ e2
      rcases sign_cases toks m2 sixL with e1 | ⟨s, e1, hlt⟩
      · rw [e1] at e
        dsimp only at e
        cases e; exact ⟨c, hc, hnc, ha⟩
      · rw [e1] at e
        dsimp only at e
        cases e3 : F (m2 + 1) with
        | mk r3 m3 =>
          have hle3 := hF.le (by omega) e3
          rw [e3] at e
          cases r3 with
          | bad p c => dsimp only at e; cases e
          | ok b3 =>
            dsimp only at e
            obtain ⟨d, hd, hnd, hb⟩ := h _ (by omega) _ _ e3
            cases e
            exact ⟨c + d + 1, by omega, by omega, fine_two ha hb (by omega) (six_ops _ (sign_in e1))⟩
theorem good_pow {toks : List Tok} (hlen : toks.length ≤ 1000) {F F2 : PF} (hF : Fit toks F) (hF2 : Fit toks F2) (h : GoodP toks F) (h2 : GoodP toks F2) : GoodP toks (powF toks F F2) := by
  intro n hn t m e
  unfold powF at e
  cases e2 : F n with
  | mk r m2 =>
    have hle := hF.le hn e2
    rw [e2] at e
    cases r with
    | bad p c => dsimp only at e; cases e
    | ok b =>
      dsimp only at e
      obtain ⟨c, hc, hnc, ha⟩ := h _ hn _ _ e2
      rcases sign_cases toks m2 [⟨#[94]⟩] with e1 | ⟨s, e1, hlt⟩
      · rw [e1] at e
        dsimp only at e
        cases e; exact ⟨c, hc, hnc, ha⟩
      · rw [e1] at e
        dsimp only at e
        cases e3 : F2 (m2 + 1) with
        | mk r3 m3 =>
          have hle3 := hF2.le (by omega) e3
          rw [e3] at e
          cases r3 with
          | bad p c => dsimp only at e; cases e
          | ok b3 =>
            dsimp only at e
            obtain ⟨d, hd, hnd, hb⟩ := h2 _ (by omega) _ _ e3
            cases e
            exact ⟨c + d + 1, by omega, by omega, fine_two ha hb (by omega) (by decide +kernel)⟩
theorem good_un {toks : List Tok} (hlen : toks.length ≤ 1000) {F F2 : PF} (hF2 : Fit toks F2) (h : GoodP toks F) (h2 : GoodP toks F2) : GoodP toks (unF toks F F2) := by
  intro n hn t m e
  unfold unF at e
  rcases sign_cases toks n [⟨#[45]⟩] with e1 | ⟨s, e1, hlt⟩
  · rw [e1] at e
    dsimp only at e
    exact h n hn t m e
  · rw [e1] at e
    dsimp only at e
    cases e3 : F2 (n + 1) with
    | mk r3 m3 =>
      have hle3 := hF2.le (by omega) e3
      rw [e3] at e
      cases r3 with
      | bad p c => dsimp only at e; cases e
      | ok b3 =>
        dsimp only at e
        obtain ⟨d, hd, hnd, hb⟩ := h2 _ (by omega) _ _ e3
        cases e
        exact ⟨d + 1, by omega, by omega, fine_neg hb (by omega)⟩
theorem good_within {toks : List Tok} {en : Int} {F : PF} (hF : Fit toks F) (h : GoodP toks F) : GoodP toks (withinF toks en F) := by
  intro n hn t m e
  unfold withinF at e
  cases e2 : F n with
  | mk r m2 =>
    have hle := hF.le hn e2
    rw [e2] at e
    cases r with
    | bad p c => dsimp only at e; cases e
    | ok b =>
      dsimp only at e
      obtain ⟨c, hc, hnc, ha⟩ := h _ hn _ _ e2
      rcases sign_cases toks m2 [⟨#[41]⟩] with e1 | ⟨s, e1, hlt⟩
      · rw [e1] at e
        dsimp only at e
        unfold failF at e; cases e
      · rw [e1] at e
        dsimp only at e
        cases e; exact ⟨c, hc, by omega, ha⟩
theorem good_args {toks : List Tok} {en : Int} (hlen : toks.length ≤ 1000) {F : PF} (hF : Fit toks F) (h : GoodP toks F) (s : ByteArray) (hs : NameB s) (hs8 : s.size ≤ 8) (n0 : Nat) : ∀ (k : Nat) (l : List TN) (n c : Nat), l.length + k = 10 → n ≤ toks.length → n0 + 1 + c ≤ n → FineL c l → ∀ t m, argsF toks en F s k l n = (.ok t, m) → ∃ c, 1 ≤ c ∧ n0 + c ≤ m ∧ Fine c t := by
  intro k
  induction k with
  | zero => intro l n c _ hn _ _ t m e; rw [argsF] at e; unfold failF at e; cases e
  | succ k ih =>
    intro l n c hl hn hnc hL t m e
    rw [argsF] at e
    cases e2 : F n with
    | mk r m2 =>
      have hle := hF.le hn e2
      rw [e2] at e
      cases r with
      | bad p c => dsimp only at e; cases e
      | ok b =>
        dsimp only at e
        obtain ⟨d, hd, hnd, hb⟩ := h _ hn _ _ e2
        have hL2 := fineL_snoc hL hb
        rcases sign_cases toks m2 [⟨#[44]⟩] with e1 | ⟨s1, e1, hlt⟩
        · rw [e1] at e
          dsimp only at e
          rcases sign_cases toks m2 [⟨#[41]⟩] with e3 | ⟨s3, e3, hlt⟩
          · rw [e3] at e
            dsimp only at e
            unfold failF at e; cases e
          · rw [e3] at e
            dsimp only at e
            cases e
            exact ⟨c + d + 1, by omega, by omega, fine_call hL2 hs hs8 (by rw [List.length_append, List.length_singleton]; omega) (by omega)⟩
        · rw [e1] at e
          dsimp only at e
          exact ih _ _ (c + d) (by rw [List.length_append, List.length_singleton]; omega) (by omega) (by omega) hL2 _ _ e
theorem good_call {toks : List Tok} {en : Int} (hlen : toks.length ≤ 1000) {F : PF} (hF : Fit toks F) (h : GoodP toks F) (s : ByteArray) (hs : NameB s) (n : Nat) (hn : n + 2 ≤ toks.length) (t : TN) (m : Nat) (e : callF toks en F s n = (.ok t, m)) : ∃ c, 1 ≤ c ∧ n + c ≤ m ∧ Fine c t := by
  unfold callF at e
  by_cases h8 : 8 < s.size
  · rw [if_pos h8] at e; unfold failF at e; cases e
  · rw [if_neg h8] at e
    rcases sign_cases toks (n + 2) [⟨#[41]⟩] with e1 | ⟨s1, e1, hlt⟩
    · rw [e1] at e
      dsimp only at e
      exact good_args hlen hF h s hs (by omega) n 10 [] (n + 2) 0 rfl hn (by omega) fineL_nil t m e
    · rw [e1] at e
      dsimp only at e
      cases e
      exact ⟨1, by omega, by omega, fine_call fineL_nil hs (by omega) (by decide) (by omega)⟩
theorem good_name {toks : List Tok} {en : Int} (hlen : toks.length ≤ 1000) {F : PF} (hF : Fit toks F) (h : GoodP toks F) (s : ByteArray) (hs : NameB s) (n : Nat) (hn : n < toks.length) (t : TN) (m : Nat) (e : nameF toks en F s n = (.ok t, m)) : ∃ c, 1 ≤ c ∧ n + c ≤ m ∧ Fine c t := by
  unfold nameF at e
  by_cases h0 : opensV toks n = true
  · rw [if_pos h0] at e
    exact good_call hlen hF h s hs n (by have := opens_lt h0; omega) t m e
  · rw [if_neg h0] at e
    by_cases h1 : (s.toList == ([84, 82, 85, 69] : List UInt8)) = true
    · rw [if_pos h1] at e; cases e; exact ⟨1, by omega, by omega, fine_bool 1 (by omega)⟩
    · rw [if_neg h1] at e
      by_cases h2 : (s.toList == ([70, 65, 76, 83, 69] : List UInt8)) = true
      · rw [if_pos h2] at e; cases e; exact ⟨1, by omega, by omega, fine_bool 0 (by omega)⟩
      · rw [if_neg h2] at e
        cases ea : cellF toks n with
        | none => rw [ea] at e; dsimp only at e; unfold failF at e; cases e
        | some x =>
          rw [ea] at e
          obtain ⟨r, c⟩ := x
          dsimp only at e
          rcases sign_cases toks (n + 1) [⟨#[58]⟩] with e1 | ⟨s1, e1, hlt⟩
          · rw [e1] at e
            dsimp only at e
            cases e; exact ⟨1, by omega, by omega, fine_cell (cellF_good ea)⟩
          · rw [e1] at e
            dsimp only at e
            cases eb : cellF toks (n + 1 + 1) with
            | none => rw [eb] at e; dsimp only at e; unfold failF at e; cases e
            | some y =>
              rw [eb] at e
              obtain ⟨x, y⟩ := y
              dsimp only at e
              cases em : addr_Made.f r c x y with
              | none => rw [em] at e; dsimp only at e; cases e
              | some z =>
                rw [em] at e
                obtain ⟨z1, z2, z3, z4, z5⟩ := z
                dsimp only at e
                cases e; exact ⟨1, by omega, by omega, fine_range (cellF_good ea) (cellF_good eb) em⟩
theorem good_part {toks : List Tok} {en : Int} {L : Nat} (hT : ∀ t ∈ toks, TokOk L t) (hlen : toks.length ≤ 1000) {F : PF} (hF : Fit toks F) (h : GoodP toks F) : GoodP toks (partF toks en F) := by
  intro n hn t m e
  unfold partF at e
  by_cases hlt : n < toks.length
  · rw [List.getElem?_eq_getElem hlt] at e
    have hk := hT _ (List.getElem_mem hlt)
    dsimp only at e
    by_cases h1 : (toks[n]).f0 = 1
    · rw [if_pos h1] at e; cases e; exact ⟨1, by omega, by omega, fine_int (hk.num h1)⟩
    · rw [if_neg h1] at e
      by_cases h2 : (toks[n]).f0 = 2
      · rw [if_pos h2] at e
        by_cases hs : (toks[n]).f2.size ≤ 200
        · rw [if_pos hs] at e; cases e; exact ⟨1, by omega, by omega, fine_text hs⟩
        · rw [if_neg hs] at e; unfold failF at e; cases e
      · rw [if_neg h2] at e
        by_cases h3 : (toks[n]).f0 = 3
        · rw [if_pos h3] at e
          exact good_name hlen hF h _ (hk.name h3) n hlt t m e
        · rw [if_neg h3] at e
          by_cases h4 : (toks[n]).f0 = 4
          · rw [if_pos h4] at e
            rcases sign_cases toks n [⟨#[40]⟩] with e1 | ⟨s, e1, hlt⟩
            · rw [e1] at e; dsimp only at e; unfold failF at e; cases e
            · rw [e1] at e
              dsimp only at e
              obtain ⟨c, hc, hnc, hf⟩ := good_within hF h (n + 1) (by omega) t m e
              exact ⟨c, hc, by omega, hf⟩
          · rw [if_neg h4] at e; unfold failF at e; cases e
  · rw [List.getElem?_eq_none (by omega)] at e
    dsimp only at e
    unfold failF at e; cases e
theorem good_lv {toks : List Tok} {L : Nat} (hT : ∀ t ∈ toks, TokOk L t) (hlen : toks.length ≤ 1000) (en : Int) : ∀ d, GoodP toks (lv toks en d).form ∧ GoodP toks (lv toks en d).pow ∧ GoodP toks (lv toks en d).un := by
  intro d
  induction d with
  | zero =>
    have : GoodP toks (fun n => (.bad 0 14, n)) := fun n hn t m e => by cases e
    exact ⟨this, this, this⟩
  | succ d ih =>
    obtain ⟨h1, h2, h3⟩ := ih
    obtain ⟨f1, f2, f3⟩ := fit_lv toks en d
    have fu := fit_un (fit_part (en := en) f1) f3
    have fp := fit_pow fu f2
    have gu := good_un hlen f3 (good_part (en := en) hT hlen f1 h1) h3
    have gp := good_pow hlen fu f2 gu h2
    exact ⟨good_form hlen (fit_rows (fit_rows fp _) _) (good_rows hlen (fit_rows fp _) (good_rows hlen fp gp prodL prod_ops) sumL sum_ops), gp, gu⟩
theorem place_ge {toks : List Tok} {L : Nat} (hT : ∀ t ∈ toks, TokOk L t) {en : Int} (he : 0 ≤ en) (n : Nat) : 0 ≤ placeV toks en n := by
  unfold placeV
  cases e : toks[n]? with
  | none => exact he
  | some t => exact (hT t (List.mem_of_getElem? e)).at_
end Go.Proofs.YtpcnaoipenclnaaGreatDoor.P

namespace Go.Proofs.YtpcnaoipenclnaaGreatDoor.P
open Go.RowKit Go.Proofs.YtpcnaoipenclnaaGreatDoorW.PrintWords Go.Proofs.YtpcnaoipenclnaaGreatDoorW.PrintLast Go.Proofs.YtpcnaoipenclnaaGreatDoorW.PrintMore
set_option linter.unusedVariables false
set_option linter.unusedSimpArgs false
structure Par (toks toks' : List Tok) : Prop where
  len : toks'.length = toks.length + 2
  fst : ∃ x z, toks'[0]? = some ⟨4, x, ⟨#[40]⟩, z⟩
  mid : ∀ n, n < toks.length → toks'[n + 1]? = (toks[n]?).map shT
  lst : ∃ x z, toks'[toks.length + 1]? = some ⟨4, x, ⟨#[41]⟩, z⟩
section
variable {toks toks' : List Tok} (hP : Par toks toks')
theorem Par.sign {toks toks' : List Tok} (hP : Par toks toks') {n : Nat} (hn : n < toks.length) (l : List ByteArray) {s : ByteArray} {b : Bool} {m : Nat} (h : signV toks n l = (s, b, m)) : signV toks' (n + 1) l = (s, b, m + 1) := by
  unfold signV at h ⊢
  rw [hP.mid n hn, List.getElem?_eq_getElem hn] at *
  rw [Option.map_some]
  dsimp only [shT] at h ⊢
  by_cases h4 : (toks[n]).f0 = 4
  · rw [if_pos h4] at h ⊢
    by_cases h5 : inL l (toks[n]).f2 = true
    · rw [if_pos h5] at h ⊢; cases h; rfl
    · rw [if_neg h5] at h ⊢; cases h; rfl
  · rw [if_neg h4] at h ⊢; cases h; rfl
theorem sg_end {toks : List Tok} {n : Nat} (hn : toks.length ≤ n) (l : List ByteArray) : signV toks n l = (⟨#[]⟩, false, n) := by
  unfold signV; rw [List.getElem?_eq_none hn]
theorem Par.sign_any {toks toks' : List Tok} (hP : Par toks toks') {n : Nat} (hn : n ≤ toks.length) (l : List ByteArray) (hl : inL l ⟨#[41]⟩ = false) {s : ByteArray} {b : Bool} {m : Nat} (h : signV toks n l = (s, b, m)) : signV toks' (n + 1) l = (s, b, m + 1) := by
  by_cases hlt : n < toks.length
  · exact hP.sign hlt l h
  · obtain rfl : n = toks.length := by omega
    rw [sg_end (Nat.le_refl _)] at h
    cases h
    obtain ⟨x, z, e⟩ := hP.lst
    unfold signV
    rw [e]
    dsimp only
    rw [if_pos rfl, hl, if_neg (by decide)]
theorem Par.opens {toks toks' : List Tok} (hP : Par toks toks') {n : Nat} (hn : n < toks.length) : opensV toks' (n + 1) = opensV toks n := by
  unfold opensV
  by_cases hlt : n + 1 < toks.length
  · rw [hP.mid (n + 1) hlt, List.getElem?_eq_getElem hlt, Option.map_some]; rfl
  · have e : n + 1 = toks.length := by omega
    obtain ⟨x, z, h⟩ := hP.lst
    rw [e, h, List.getElem?_eq_none (Nat.le_refl _)]
    dsimp only
    rw [show ((⟨#[41]⟩ : ByteArray).toList == ([40] : List UInt8)) = false by decide +kernel, Bool.and_false]
theorem Par.cell {toks toks' : List Tok} (hP : Par toks toks') {n : Nat} {x : Int × Int} (h : cellF toks n = some x) : cellF toks' (n + 1) = some x := by
  have hn := cellF_lt h
  unfold cellF at h ⊢
  rw [hP.mid n hn, List.getElem?_eq_getElem hn, Option.map_some, hP.opens hn]
  rw [List.getElem?_eq_getElem hn] at h
  exact h
def RelP (toks : List Tok) (F G : PF) : Prop := ∀ n, n ≤ toks.length → ∀ t m, F n = (.ok t, m) → G (n + 1) = (.ok t, m + 1) ∨ ∃ p q, G (n + 1) = (.bad p 14, q)
theorem rel_row {toks toks' : List Tok} (hP : Par toks toks') {F G : PF} (hF : Fit toks F) (h : RelP toks F G) (l : List ByteArray) (hl : inL l ⟨#[41]⟩ = false) : ∀ (k j : Nat) (a : TN) (n : Nat), k ≤ j → n ≤ toks.length → ∀ t m, rowF toks F l k a n = (.ok t, m) → rowF toks' G l j a (n + 1) = (.ok t, m + 1) ∨ ∃ p q, rowF toks' G l j a (n + 1) = (.bad p 14, q) := by
  intro k
  induction k with
  | zero => intro j a n _ _ t m e; rw [rowF] at e; cases e
  | succ k ih =>
    intro j a n hj hn t m e
    obtain ⟨j, rfl⟩ : ∃ i, j = i + 1 := ⟨j - 1, by omega⟩
    rw [rowF] at e ⊢
    rcases sign_cases toks n l with e1 | ⟨s, e1, hlt⟩
    · rw [hP.sign_any hn l hl e1]
      rw [e1] at e
      dsimp only at e ⊢
      cases e; exact .inl rfl
    · rw [hP.sign hlt l e1]
      rw [e1] at e
      dsimp only at e ⊢
      cases e2 : F (n + 1) with
      | mk r m2 =>
        have hle := hF.le (by omega) e2
        rw [e2] at e
        cases r with
        | bad p c => dsimp only at e; cases e
        | ok b =>
          dsimp only at e
          rcases h _ (by omega) _ _ e2 with g | ⟨p, q, g⟩
          · rw [g]
            dsimp only
            exact ih j _ _ (by omega) hle.2 _ _ e
          · rw [g]; exact .inr ⟨p, q, rfl⟩
theorem rel_rows {toks toks' : List Tok} (hP : Par toks toks') {F G : PF} (hF : Fit toks F) (h : RelP toks F G) (l : List ByteArray) (hl : inL l ⟨#[41]⟩ = false) : RelP toks (rowsF toks F l) (rowsF toks' G l) := by
  intro n hn t m e
  unfold rowsF at e ⊢
  cases e2 : F n with
  | mk r m2 =>
    have hle := hF.le hn e2
    rw [e2] at e
    cases r with
    | bad p c => dsimp only at e; cases e
    | ok b =>
      dsimp only at e
      rcases h _ hn _ _ e2 with g | ⟨p, q, g⟩
      · rw [g]
        dsimp only
        exact rel_row hP hF h l hl _ _ b m2 (by rw [hP.len]; omega) hle.2 _ _ e
      · rw [g]; exact .inr ⟨p, q, rfl⟩
theorem rel_form {toks toks' : List Tok} (hP : Par toks toks') {F G : PF} (hF : Fit toks F) (h : RelP toks F G) : RelP toks (formF toks F) (formF toks' G) := by
  intro n hn t m e
  unfold formF at e ⊢
  cases e2 : F n with
  | mk r m2 =>
    have hle := hF.le hn e2
    rw [e2] at e
    cases r with
    | bad p c => dsimp only at e; cases e
    | ok b =>
      dsimp only at e
      rcases h _ hn _ _ e2 with g | ⟨p, q, g⟩
      · rw [g]
        dsimp only
        rcases sign_cases toks m2 sixL with e1 | ⟨s, e1, hlt⟩
        · rw [hP.sign_any hle.2 sixL (by decide +kernel) e1]
          rw [e1] at e
          dsimp only at e ⊢
          cases e; exact .inl rfl
        · rw [hP.sign hlt sixL e1]
          rw [e1] at e
          dsimp only at e ⊢
          cases e3 : F (m2 + 1) with
          | mk r3 m3 =>
            rw [e3] at e
            cases r3 with
            | bad p c => dsimp only at e; cases e
            | ok c =>
              dsimp only at e
              rcases h _ (by omega) _ _ e3 with g | ⟨p, q, g⟩
              · rw [g]; cases e; exact .inl rfl
              · rw [g]; exact .inr ⟨p, q, rfl⟩
      · rw [g]; exact .inr ⟨p, q, rfl⟩
theorem rel_pow {toks toks' : List Tok} (hP : Par toks toks') {F G F2 G2 : PF} (hF : Fit toks F) (h : RelP toks F G) (h2 : RelP toks F2 G2) : RelP toks (powF toks F F2) (powF toks' G G2) := by
  intro n hn t m e
  unfold powF at e ⊢
  cases e2 : F n with
  | mk r m2 =>
    have hle := hF.le hn e2
    rw [e2] at e
    cases r with
    | bad p c => dsimp only at e; cases e
    | ok b =>
      dsimp only at e
      rcases h _ hn _ _ e2 with g | ⟨p, q, g⟩
      · rw [g]
        dsimp only
        rcases sign_cases toks m2 [⟨#[94]⟩] with e1 | ⟨s, e1, hlt⟩
        · rw [hP.sign_any hle.2 _ (by decide +kernel) e1]
          rw [e1] at e
          dsimp only at e ⊢
          cases e; exact .inl rfl
        · rw [hP.sign hlt _ e1]
          rw [e1] at e
          dsimp only at e ⊢
          cases e3 : F2 (m2 + 1) with
          | mk r3 m3 =>
            rw [e3] at e
            cases r3 with
            | bad p c => dsimp only at e; cases e
            | ok c =>
              dsimp only at e
              rcases h2 _ (by omega) _ _ e3 with g | ⟨p, q, g⟩
              · rw [g]; cases e; exact .inl rfl
              · rw [g]; exact .inr ⟨p, q, rfl⟩
      · rw [g]; exact .inr ⟨p, q, rfl⟩
theorem rel_un {toks toks' : List Tok} (hP : Par toks toks') {F G F2 G2 : PF} (h : RelP toks F G) (h2 : RelP toks F2 G2) : RelP toks (unF toks F F2) (unF toks' G G2) := by
  intro n hn t m e
  unfold unF at e ⊢
  rcases sign_cases toks n [⟨#[45]⟩] with e1 | ⟨s, e1, hlt⟩
  · rw [hP.sign_any hn _ (by decide +kernel) e1]
    rw [e1] at e
    dsimp only at e ⊢
    exact h n hn t m e
  · rw [hP.sign hlt _ e1]
    rw [e1] at e
    dsimp only at e ⊢
    cases e3 : F2 (n + 1) with
    | mk r3 m3 =>
      rw [e3] at e
      cases r3 with
      | bad p c => dsimp only at e; cases e
      | ok c =>
        dsimp only at e
        rcases h2 _ (by omega) _ _ e3 with g | ⟨p, q, g⟩
        · rw [g]; cases e; exact .inl rfl
        · rw [g]; exact .inr ⟨p, q, rfl⟩
theorem rel_within {toks toks' : List Tok} (hP : Par toks toks') {en en' : Int} {F G : PF} (hF : Fit toks F) (h : RelP toks F G) : RelP toks (withinF toks en F) (withinF toks' en' G) := by
  intro n hn t m e
  unfold withinF at e ⊢
  cases e2 : F n with
  | mk r m2 =>
    have hle := hF.le hn e2
    rw [e2] at e
    cases r with
    | bad p c => dsimp only at e; cases e
    | ok b =>
      dsimp only at e
      rcases h _ hn _ _ e2 with g | ⟨p, q, g⟩
      · rw [g]
        dsimp only
        rcases sign_cases toks m2 [⟨#[41]⟩] with e1 | ⟨s, e1, hlt⟩
        · rw [e1] at e
          dsimp only at e
          unfold failF at e; cases e
        · rw [hP.sign hlt _ e1]
          rw [e1] at e
          dsimp only at e ⊢
          cases e; exact .inl rfl
      · rw [g]; exact .inr ⟨p, q, rfl⟩
theorem rel_args {toks toks' : List Tok} (hP : Par toks toks') {en en' : Int} {F G : PF} (hF : Fit toks F) (h : RelP toks F G) (s : ByteArray) : ∀ (k : Nat) (l : List TN) (n : Nat), n ≤ toks.length → ∀ t m, argsF toks en F s k l n = (.ok t, m) → argsF toks' en' G s k l (n + 1) = (.ok t, m + 1) ∨ ∃ p q, argsF toks' en' G s k l (n + 1) = (.bad p 14, q) := by
  intro k
  induction k with
  | zero => intro l n hn t m e; rw [argsF] at e; unfold failF at e; cases e
  | succ k ih =>
    intro l n hn t m e
    rw [argsF] at e ⊢
    cases e2 : F n with
    | mk r m2 =>
      have hle := hF.le hn e2
      rw [e2] at e
      cases r with
      | bad p c => dsimp only at e; cases e
      | ok b =>
        dsimp only at e
        rcases h _ hn _ _ e2 with g | ⟨p, q, g⟩
        · rw [g]
          dsimp only
          rcases sign_cases toks m2 [⟨#[44]⟩] with e1 | ⟨s1, e1, hlt⟩
          · rw [hP.sign_any hle.2 _ (by decide +kernel) e1]
            rw [e1] at e
            dsimp only at e ⊢
            rcases sign_cases toks m2 [⟨#[41]⟩] with e3 | ⟨s3, e3, hlt⟩
            · rw [e3] at e
              dsimp only at e
              unfold failF at e; cases e
            · rw [hP.sign hlt _ e3]
              rw [e3] at e
              dsimp only at e ⊢
              cases e; exact .inl rfl
          · rw [hP.sign hlt _ e1]
            rw [e1] at e
            dsimp only at e ⊢
            exact ih _ _ (by omega) _ _ e
        · rw [g]; exact .inr ⟨p, q, rfl⟩
theorem rel_call {toks toks' : List Tok} (hP : Par toks toks') {en en' : Int} {F G : PF} (hF : Fit toks F) (h : RelP toks F G) (s : ByteArray) (n : Nat) (hn : n + 2 ≤ toks.length) (t : TN) (m : Nat) (e : callF toks en F s n = (.ok t, m)) : callF toks' en' G s (n + 1) = (.ok t, m + 1) ∨ ∃ p q, callF toks' en' G s (n + 1) = (.bad p 14, q) := by
  unfold callF at e ⊢
  by_cases h8 : 8 < s.size
  · rw [if_pos h8] at e; unfold failF at e; cases e
  · rw [if_neg h8] at e ⊢
    rcases sign_cases toks (n + 2) [⟨#[41]⟩] with e1 | ⟨s1, e1, hlt⟩
    · rw [e1] at e
      dsimp only at e
      by_cases hlt : n + 2 < toks.length
      · rw [show n + 1 + 2 = n + 2 + 1 by omega, hP.sign hlt _ e1]
        dsimp only
        exact rel_args hP hF h s 10 [] (n + 2) hn t m e
      · have hE : toks.length ≤ n + 2 := by omega
        exfalso
        rw [argsF] at e
        cases e2 : F (n + 2) with
        | mk r m2 =>
          rw [e2] at e
          cases r with
          | bad p c => dsimp only at e; cases e
          | ok b =>
            have h1 := hF.lt hn e2
            have h2 := (hF.le hn e2).2
            omega
    · rw [show n + 1 + 2 = n + 2 + 1 by omega, hP.sign hlt _ e1]
      rw [e1] at e
      dsimp only at e ⊢
      cases e; exact .inl rfl
theorem rel_name {toks toks' : List Tok} (hP : Par toks toks') {en en' : Int} {F G : PF} (hF : Fit toks F) (h : RelP toks F G) (s : ByteArray) (n : Nat) (hn : n < toks.length) (t : TN) (m : Nat) (e : nameF toks en F s n = (.ok t, m)) : nameF toks' en' G s (n + 1) = (.ok t, m + 1) ∨ ∃ p q, nameF toks' en' G s (n + 1) = (.bad p 14, q) := by
  unfold nameF at e ⊢
  rw [hP.opens hn]
  by_cases h0 : opensV toks n = true
  · rw [if_pos h0] at e ⊢
    exact rel_call hP hF h s n (by have := opens_lt h0; omega) t m e
  · rw [if_neg h0] at e ⊢
    by_cases h1 : (s.toList == ([84, 82, 85, 69] : List UInt8)) = true
    · rw [if_pos h1] at e ⊢; cases e; exact .inl rfl
    · rw [if_neg h1] at e ⊢
      by_cases h2 : (s.toList == ([70, 65, 76, 83, 69] : List UInt8)) = true
      · rw [if_pos h2] at e ⊢; cases e; exact .inl rfl
      · rw [if_neg h2] at e ⊢
        cases ea : cellF toks n with
        | none => rw [ea] at e; dsimp only at e; unfold failF at e; cases e
        | some x =>
          rw [hP.cell ea]
          rw [ea] at e
          obtain ⟨r, c⟩ := x
          dsimp only at e ⊢
          rcases sign_cases toks (n + 1) [⟨#[58]⟩] with e1 | ⟨s1, e1, hlt⟩
          · rw [hP.sign_any (by omega) _ (by decide +kernel) e1]
            rw [e1] at e
            dsimp only at e ⊢
            cases e; exact .inl rfl
          · rw [hP.sign hlt _ e1]
            rw [e1] at e
            dsimp only at e ⊢
            cases eb : cellF toks (n + 1 + 1) with
            | none => rw [eb] at e; dsimp only at e; unfold failF at e; cases e
            | some y =>
              rw [hP.cell eb]
              rw [eb] at e
              obtain ⟨x, y⟩ := y
              dsimp only at e ⊢
              cases em : addr_Made.f r c x y with
              | none => rw [em] at e; dsimp only at e; cases e
              | some z =>
                rw [em] at e
                obtain ⟨z1, z2, z3, z4, z5⟩ := z
                dsimp only at e ⊢
                cases e; exact .inl rfl
theorem rel_part {toks toks' : List Tok} (hP : Par toks toks') {en en' : Int} {F G : PF} (hF : Fit toks F) (h : RelP toks F G) : RelP toks (partF toks en F) (partF toks' en' G) := by
  intro n hn t m e
  unfold partF at e ⊢
  by_cases hlt : n < toks.length
  · rw [hP.mid n hlt, List.getElem?_eq_getElem hlt, Option.map_some]
    rw [List.getElem?_eq_getElem hlt] at e
    dsimp only [shT] at e ⊢
    by_cases h1 : (toks[n]).f0 = 1
    · rw [if_pos h1] at e ⊢; cases e; exact .inl rfl
    · rw [if_neg h1] at e ⊢
      by_cases h2 : (toks[n]).f0 = 2
      · rw [if_pos h2] at e ⊢
        by_cases hs : (toks[n]).f2.size ≤ 200
        · rw [if_pos hs] at e ⊢; cases e; exact .inl rfl
        · rw [if_neg hs] at e; unfold failF at e; cases e
      · rw [if_neg h2] at e ⊢
        by_cases h3 : (toks[n]).f0 = 3
        · rw [if_pos h3] at e ⊢
          exact rel_name hP hF h _ n hlt t m e
        · rw [if_neg h3] at e ⊢
          by_cases h4 : (toks[n]).f0 = 4
          · rw [if_pos h4] at e ⊢
            rcases sign_cases toks n [⟨#[40]⟩] with e1 | ⟨s, e1, hlt⟩
            · rw [e1] at e; dsimp only at e; unfold failF at e; cases e
            · rw [hP.sign hlt _ e1]
              rw [e1] at e
              dsimp only at e ⊢
              exact rel_within hP hF h (n + 1) (by omega) t m e
          · rw [if_neg h4] at e; unfold failF at e; cases e
  · rw [List.getElem?_eq_none (by omega)] at e
    dsimp only at e
    unfold failF at e; cases e
theorem rel_lv {toks toks' : List Tok} (hP : Par toks toks') (en en' : Int) : ∀ d, RelP toks (lv toks en (d + 1)).form (lv toks' en' d).form ∧ RelP toks (lv toks en (d + 1)).pow (lv toks' en' d).pow ∧ RelP toks (lv toks en (d + 1)).un (lv toks' en' d).un := by
  intro d
  induction d with
  | zero => exact ⟨fun n hn t m e => .inr ⟨0, n + 1, rfl⟩, fun n hn t m e => .inr ⟨0, n + 1, rfl⟩, fun n hn t m e => .inr ⟨0, n + 1, rfl⟩⟩
  | succ d ih =>
    obtain ⟨h1, h2, h3⟩ := ih
    obtain ⟨f1, f2, f3⟩ := fit_lv toks en (d + 1)
    have gu := fit_un (fit_part (en := en) f1) f3
    have ru := rel_un hP (rel_part (en := en) (en' := en') hP f1 h1) h3
    have gp := fit_pow gu f2
    have rp := rel_pow hP gu ru h2
    have gr := fit_rows gp prodL
    have rr := rel_rows hP gp rp prodL (by decide +kernel)
    have gs := fit_rows gr sumL
    have rs := rel_rows hP gr rr sumL (by decide +kernel)
    exact ⟨rel_form hP gs rs, rp, ru⟩
theorem par_form {toks toks' : List Tok} (hP : Par toks toks') (en en' : Int) (t : TN) (h : (lv toks en 41).form 0 = (.ok t, toks.length)) :
    (lv toks' en' 41).form 0 = (.ok t, toks'.length) ∨ ∃ p q, (lv toks' en' 41).form 0 = (.bad p 14, q) := by
  obtain ⟨x, z, e0⟩ := hP.fst
  obtain ⟨x2, z2, e1⟩ := hP.lst
  have hs : ∀ l, inL l ⟨#[40]⟩ = false → signV toks' 0 l = (⟨#[]⟩, false, 0) := by
    intro l hl; unfold signV; rw [e0]; dsimp only; rw [if_pos rfl, hl, if_neg (by decide)]
  have ho : signV toks' 0 [⟨#[40]⟩] = (⟨#[40]⟩, true, 1) := by
    unfold signV; rw [e0]; dsimp only; rw [if_pos rfl, if_pos (by decide +kernel)]
  have hc : signV toks' (toks.length + 1) [⟨#[41]⟩] = (⟨#[41]⟩, true, toks.length + 2) := by
    unfold signV; rw [e1]; dsimp only; rw [if_pos rfl, if_pos (by decide +kernel)]
  have hend : ∀ l, signV toks' (toks.length + 2) l = (⟨#[]⟩, false, toks.length + 2) := fun l => sg_end (by rw [hP.len]; omega) l
  have hpart : partF toks' en' (lv toks' en' 40).form 0 = withinF toks' en' (lv toks' en' 40).form 1 := by
    unfold partF
    rw [e0]
    dsimp only
    rw [if_neg (by decide), if_neg (by decide), if_neg (by decide), if_pos rfl, ho]
  have hun : (lv toks' en' 41).un 0 = partF toks' en' (lv toks' en' 40).form 0 := by
    show unF toks' _ _ 0 = _
    unfold unF
    rw [hs _ (by decide +kernel)]
  have hform : (lv toks' en' 41).form 0 = formF toks' (rowsF toks' (rowsF toks' (powF toks' (lv toks' en' 41).un (lv toks' en' 40).pow) prodL) sumL) 0 := rfl
  have hl : toks'.length = toks.length + 2 := hP.len
  rw [hform]
  rcases (rel_lv hP en en' 40).1 0 (Nat.zero_le _) t toks.length h with g | ⟨p, q, g⟩
  · left
    have hp := hpart
    unfold withinF at hp
    rw [g] at hp
    dsimp only at hp
    rw [hc] at hp
    dsimp only at hp
    unfold formF rowsF powF
    rw [hun, hp]
    dsimp only
    rw [hend]
    dsimp only
    rw [rowF, hend]
    dsimp only
    rw [rowF, hend]
    dsimp only
    rw [hend, hl]
  · right
    have hp := hpart
    unfold withinF at hp
    rw [g] at hp
    dsimp only at hp
    refine ⟨p, q, ?_⟩
    unfold formF rowsF powF
    rw [hun, hp]
end
end Go.Proofs.YtpcnaoipenclnaaGreatDoor.P

namespace Go.Proofs.YtpcnaoipenclnaaGreatDoor.P
open Go.RowKit Go.Proofs.YtpcnaoipenclnaaGreatDoorW.PrintWords Go.Proofs.YtpcnaoipenclnaaGreatDoorW.PrintLast Go.Proofs.YtpcnaoipenclnaaGreatDoorW.PrintMore
open M (I64)
set_option linter.unusedVariables false
set_option linter.unusedSimpArgs false
def BadP (toks : List Tok) (F : PF) : Prop := ∀ n, n ≤ toks.length → ∀ p c m, F n = (.bad p c, m) → 0 ≤ p ∧ c ≠ 0
section
variable {toks : List Tok} {L : Nat} (hT : ∀ t ∈ toks, TokOk L t) {en : Int} (he : 0 ≤ en)
include hT he
theorem bad_fail {n m : Nat} {p c : Int} (e : failF toks en n = (.bad p c, m)) : 0 ≤ p ∧ c ≠ 0 := by
  unfold failF at e; cases e; exact ⟨place_ge hT he n, by decide⟩
theorem bad_within {F : PF} (hF : Fit toks F) (h : BadP toks F) : BadP toks (withinF toks en F) := by
  intro n hn p c m e
  unfold withinF at e
  cases e2 : F n with
  | mk r m2 =>
    have hle := hF.le hn e2
    rw [e2] at e
    cases r with
    | bad p c => dsimp only at e; cases e; exact h n hn _ _ _ e2
    | ok b =>
      dsimp only at e
      rcases sign_cases toks m2 [⟨#[41]⟩] with e1 | ⟨s, e1, hlt⟩
      · rw [e1] at e; exact bad_fail hT he e
      · rw [e1] at e; cases e
theorem bad_args {F : PF} (hF : Fit toks F) (h : BadP toks F) (s : ByteArray) : ∀ (k : Nat) (l : List TN) (n : Nat), n ≤ toks.length → ∀ p c m, argsF toks en F s k l n = (.bad p c, m) → 0 ≤ p ∧ c ≠ 0 := by
  intro k
  induction k with
  | zero => intro l n hn p c m e; rw [argsF] at e; exact bad_fail hT he e
  | succ k ih =>
    intro l n hn p c m e
    rw [argsF] at e
    cases e2 : F n with
    | mk r m2 =>
      have hle := hF.le hn e2
      rw [e2] at e
      cases r with
      | bad p c => dsimp only at e; cases e; exact h n hn _ _ _ e2
      | ok b =>
        dsimp only at e
        rcases sign_cases toks m2 [⟨#[44]⟩] with e1 | ⟨s1, e1, hlt⟩
        · rw [e1] at e
          dsimp only at e
          rcases sign_cases toks m2 [⟨#[41]⟩] with e3 | ⟨s3, e3, hlt⟩
          · rw [e3] at e; exact bad_fail hT he e
          · rw [e3] at e; cases e
        · rw [e1] at e
          dsimp only at e
          exact ih _ _ (by omega) _ _ _ e
theorem bad_name {F : PF} (hF : Fit toks F) (h : BadP toks F) (s : ByteArray) (n : Nat) (hn : n < toks.length) (p c : Int) (m : Nat) (e : nameF toks en F s n = (.bad p c, m)) : 0 ≤ p ∧ c ≠ 0 := by
  unfold nameF at e
  by_cases h0 : opensV toks n = true
  · rw [if_pos h0] at e
    have hlt := opens_lt h0
    unfold callF at e
    by_cases h8 : 8 < s.size
    · rw [if_pos h8] at e; exact bad_fail hT he e
    · rw [if_neg h8] at e
      rcases sign_cases toks (n + 2) [⟨#[41]⟩] with e1 | ⟨s1, e1, hlt⟩
      · rw [e1] at e
        exact bad_args hT he hF h s 10 [] (n + 2) (by omega) p c m e
      · rw [e1] at e; cases e
  · rw [if_neg h0] at e
    by_cases h1 : (s.toList == ([84, 82, 85, 69] : List UInt8)) = true
    · rw [if_pos h1] at e; cases e
    · rw [if_neg h1] at e
      by_cases h2 : (s.toList == ([70, 65, 76, 83, 69] : List UInt8)) = true
      · rw [if_pos h2] at e; cases e
      · rw [if_neg h2] at e
        cases ea : cellF toks n with
        | none => rw [ea] at e; exact bad_fail hT he e
        | some x =>
          rw [ea] at e
          obtain ⟨r, c1⟩ := x
          dsimp only at e
          rcases sign_cases toks (n + 1) [⟨#[58]⟩] with e1 | ⟨s1, e1, hlt⟩
          · rw [e1] at e; cases e
          · rw [e1] at e
            dsimp only at e
            cases eb : cellF toks (n + 1 + 1) with
            | none => rw [eb] at e; exact bad_fail hT he e
            | some y =>
              rw [eb] at e
              obtain ⟨x, y⟩ := y
              dsimp only at e
              have hm : ∃ z, addr_Made.f r c1 x y = some z := by
                unfold addr_Made.f
                rw [cellF_good ea, cellF_good eb]
                exact ⟨_, rfl⟩
              obtain ⟨⟨z1, z2, z3, z4, z5⟩, hm⟩ := hm
              rw [hm] at e; cases e
theorem bad_part {F : PF} (hF : Fit toks F) (h : BadP toks F) : BadP toks (partF toks en F) := by
  intro n hn p c m e
  unfold partF at e
  by_cases hlt : n < toks.length
  · rw [List.getElem?_eq_getElem hlt] at e
    dsimp only at e
    by_cases h1 : (toks[n]).f0 = 1
    · rw [if_pos h1] at e; cases e
    · rw [if_neg h1] at e
      by_cases h2 : (toks[n]).f0 = 2
      · rw [if_pos h2] at e
        by_cases hs : (toks[n]).f2.size ≤ 200
        · rw [if_pos hs] at e; cases e
        · rw [if_neg hs] at e; exact bad_fail hT he e
      · rw [if_neg h2] at e
        by_cases h3 : (toks[n]).f0 = 3
        · rw [if_pos h3] at e
          exact bad_name hT he hF h _ n hlt p c m e
        · rw [if_neg h3] at e
          by_cases h4 : (toks[n]).f0 = 4
          · rw [if_pos h4] at e
            rcases sign_cases toks n [⟨#[40]⟩] with e1 | ⟨s, e1, hlt⟩
            · rw [e1] at e; exact bad_fail hT he e
            · rw [e1] at e
              exact bad_within hT he hF h (n + 1) (by omega) p c m e
          · rw [if_neg h4] at e; exact bad_fail hT he e
  · rw [List.getElem?_eq_none (by omega)] at e
    exact bad_fail hT he e
end
theorem bad_row {toks : List Tok} {F : PF} (hF : Fit toks F) (h : BadP toks F) (l : List ByteArray) : ∀ (k : Nat) (a : TN) (n : Nat), n ≤ toks.length → toks.length < n + k → ∀ p c m, rowF toks F l k a n = (.bad p c, m) → 0 ≤ p ∧ c ≠ 0 := by
  intro k
  induction k with
  | zero => intro a n hn hk p c m e; omega
  | succ k ih =>
    intro a n hn hk p c m e
    rw [rowF] at e
    rcases sign_cases toks n l with e1 | ⟨s, e1, hlt⟩
    · rw [e1] at e; cases e
    · rw [e1] at e
      dsimp only at e
      cases e2 : F (n + 1) with
      | mk r m2 =>
        have hle := hF.le (by omega) e2
        rw [e2] at e
        cases r with
        | bad p c => dsimp only at e; cases e; exact h _ (by omega) _ _ _ e2
        | ok b => dsimp only at e; exact ih _ _ hle.2 (by omega) _ _ _ e
theorem bad_rows {toks : List Tok} {F : PF} (hF : Fit toks F) (h : BadP toks F) (l : List ByteArray) : BadP toks (rowsF toks F l) := by
  intro n hn p c m e
  unfold rowsF at e
  cases e2 : F n with
  | mk r m2 =>
    have hle := hF.le hn e2
    rw [e2] at e
    cases r with
    | bad p c => dsimp only at e; cases e; exact h _ hn _ _ _ e2
    | ok b => dsimp only at e; exact bad_row hF h l _ _ _ hle.2 (by omega) _ _ _ e
theorem bad_form {toks : List Tok} {F : PF} (hF : Fit toks F) (h : BadP toks F) : BadP toks (formF toks F) := by
  intro n hn p c m e
  unfold formF at e
  cases e2 : F n with
  | mk r m2 =>
    have hle := hF.le hn e2
    rw [e2] at e
    cases r with
    | bad p c => dsimp only at e; cases e; exact h _ hn _ _ _ e2
    | ok b =>
      dsimp only at e
      rcases sign_cases toks m2 sixL with e1 | ⟨s, e1, hlt⟩
      · rw [e1] at e; cases e
      · rw [e1] at e
        dsimp only at e
        cases e3 : F (m2 + 1) with
        | mk r3 m3 =>
          rw [e3] at e
          cases r3 with
          | bad p c => dsimp only at e; cases e; exact h _ (by omega) _ _ _ e3
          | ok b3 => cases e
theorem bad_pow {toks : List Tok} {F F2 : PF} (hF : Fit toks F) (h : BadP toks F) (h2 : BadP toks F2) : BadP toks (powF toks F F2) := by
  intro n hn p c m e
  unfold powF at e
  cases e2 : F n with
  | mk r m2 =>
    have hle := hF.le hn e2
    rw [e2] at e
    cases r with
    | bad p c => dsimp only at e; cases e; exact h _ hn _ _ _ e2
    | ok b =>
      dsimp only at e
      rcases sign_cases toks m2 [⟨#[94]⟩] with e1 | ⟨s, e1, hlt⟩
      · rw [e1] at e; cases e
      · rw [e1] at e
        dsimp only at e
        cases e3 : F2 (m2 + 1) with
        | mk r3 m3 =>
          rw [e3] at e
          cases r3 with
          | bad p c => dsimp only at e; cases e; exact h2 _ (by omega) _ _ _ e3
          | ok b3 => cases e
theorem bad_un {toks : List Tok} {F F2 : PF} (h : BadP toks F) (h2 : BadP toks F2) : BadP toks (unF toks F F2) := by
  intro n hn p c m e
  unfold unF at e
  rcases sign_cases toks n [⟨#[45]⟩] with e1 | ⟨s, e1, hlt⟩
  · rw [e1] at e; exact h n hn _ _ _ e
  · rw [e1] at e
    dsimp only at e
    cases e3 : F2 (n + 1) with
    | mk r3 m3 =>
      rw [e3] at e
      cases r3 with
      | bad p c => dsimp only at e; cases e; exact h2 _ (by omega) _ _ _ e3
      | ok b3 => cases e
theorem bad_lv {toks : List Tok} {L : Nat} (hT : ∀ t ∈ toks, TokOk L t) {en : Int} (he : 0 ≤ en) : ∀ d, BadP toks (lv toks en d).form ∧ BadP toks (lv toks en d).pow ∧ BadP toks (lv toks en d).un := by
  intro d
  induction d with
  | zero =>
    have : BadP toks (fun n => (.bad 0 14, n)) := fun n hn p c m e => by cases e; exact ⟨by decide, by decide⟩
    exact ⟨this, this, this⟩
  | succ d ih =>
    obtain ⟨h1, h2, h3⟩ := ih
    obtain ⟨f1, f2, f3⟩ := fit_lv toks en d
    have fu := fit_un (fit_part (en := en) f1) f3
    have fp := fit_pow fu f2
    have gu := bad_un (bad_part hT he f1 h1) h3
    have gp := bad_pow fu gu h2
    exact ⟨bad_form (fit_rows (fit_rows fp _) _) (bad_rows (fit_rows fp _) (bad_rows fp gp prodL) sumL), gp, gu⟩
theorem kd_num : ∀ c : Fin 256, (kindOf (c.val : Int) == 2) = (decide (48 ≤ c.val) && decide (c.val ≤ 57)) := by decide +kernel
theorem kd_let : ∀ c : Fin 256, (kindOf (c.val : Int) == 3) = ((decide (65 ≤ c.val) && decide (c.val ≤ 90)) || (decide (97 ≤ c.val) && decide (c.val ≤ 122))) := by decide +kernel
theorem num_byte (s : ByteArray) (i : Nat) (h : kindOf (bt s (i : Int)) = 2) : 48 ≤ (bu s i).toNat ∧ (bu s i).toNat ≤ 57 := by
  have := kd_num ⟨(bu s i).toNat, (bu s i).toNat_lt⟩
  rw [bt_bu] at h
  simp only [h, beq_self_eq_true, Bool.true_eq, Bool.and_eq_true, decide_eq_true_eq] at this
  exact this
theorem let_byte (s : ByteArray) (i : Nat) (h : kindOf (bt s (i : Int)) = 3) : (65 ≤ (bu s i).toNat ∧ (bu s i).toNat ≤ 90) ∨ (97 ≤ (bu s i).toNat ∧ (bu s i).toNat ≤ 122) := by
  have := kd_let ⟨(bu s i).toNat, (bu s i).toNat_lt⟩
  rw [bt_bu] at h
  simp only [h, beq_self_eq_true, Bool.true_eq, Bool.or_eq_true, Bool.and_eq_true, decide_eq_true_eq] at this
  exact this
theorem runN_all (p : Int → Bool) (s : ByteArray) : ∀ (d i j : Nat), i ≤ j → j < runN p s d i → p (kindOf (bt s (j : Int))) = true
  | 0, i, j, h, h2 => by rw [runN] at h2; omega
  | d + 1, i, j, h, h2 => by
    rw [runN] at h2
    by_cases hlt : i < s.size
    · rw [if_pos hlt] at h2
      by_cases hp : p (kindOf (bt s (i : Int))) = true
      · rw [if_pos hp] at h2
        by_cases hij : i = j
        · subst hij; exact hp
        · exact runN_all p s d (i + 1) j (by omega) h2
      · rw [if_neg hp] at h2; omega
    · rw [if_neg hlt] at h2; omega
theorem textF_size (s : ByteArray) : ∀ (d i : Nat) (out : List UInt8), out.length ≤ i → (textF s d i out).1.size ≤ s.size
  | 0, i, out, h => by rw [textF]; exact Nat.zero_le _
  | d + 1, i, out, h => by
    unfold textF
    split
    · split
      · split
        · show out.length ≤ s.size; omega
        · exact textF_size s d (i + 2) _ (by rw [List.length_append, List.length_singleton]; omega)
      · exact textF_size s d (i + 1) _ (by rw [List.length_append, List.length_singleton]; omega)
    · exact Nat.zero_le _
theorem pI_ge {s : ByteArray} {c : UInt8} {r : List UInt8} (h : s.data.toList = c :: r) (hc : c.toNat ≠ 45) : 0 ≤ (pI s).1 := by
  unfold pI
  rw [h]
  unfold Lib.parseIntB
  dsimp only
  cases hq : Lib.parseUintB 64 (if c.toNat = 43 ∨ c.toNat = 45 then r else c :: r)
  · rename_i u
    dsimp only
    by_cases h1 : ¬ c.toNat = 45 ∧ 2 ^ (64 - 1) ≤ u
    · rw [if_pos h1]; exact Int.le_refl _
    · rw [if_neg h1, if_neg (fun h => hc h.1), if_neg hc]; exact Int.natCast_nonneg u
  · exact Int.le_refl _
  · exact Int.le_refl _
end Go.Proofs.YtpcnaoipenclnaaGreatDoor.P
