/- Contracts of the functions that the law reaches, each with the plain function that it comes to, and plain facts about these. -/
import Derived.Test.YtnomfbmebafolaaGreatDoorBL2
import Derived.Test.YtnomfbmebafolaaGreatDoorBL3
import Derived.Test.YtnomfbmebafolaaGreatDoorBL4
import Derived.Test.YtnomfbmebafolaaGreatDoorBL5
import Derived.Test.YtnomfbmebafolaaGreatDoorBL6
namespace Go.Proofs.YtnomfbmebafolaaGreatDoor.P
open Go.RowKit Go.Proofs.YtnomfbmebafolaaGreatDoorW.PrintWords Go.Proofs.YtnomfbmebafolaaGreatDoorW.PrintLast Go.Proofs.YtnomfbmebafolaaGreatDoorW.PrintMore
attribute [local go_sem] max2_int min2_int max_two min_two max_three min_three max_four min_four   -- for this text's walks alone
set_option linter.unusedVariables false
set_option linter.unusedSimpArgs false
def pannierlaw07_wakes.f (k : Nat)  : Option (Bool) := (source_Read.f k (⟨#[39, 49, 50]⟩ : ByteArray)).bind fun bt287 => ((source_Write.f k bt287.1 bt287.2.1 bt287.2.2.1 bt287.2.2.2.1 bt287.2.2.2.2.1 bt287.2.2.2.2.2.1 bt287.2.2.2.2.2.2.1 bt287.2.2.2.2.2.2.2.1 bt287.2.2.2.2.2.2.2.2.1 bt287.2.2.2.2.2.2.2.2.2.1 bt287.2.2.2.2.2.2.2.2.2.2.1 bt287.2.2.2.2.2.2.2.2.2.2.2.1 bt287.2.2.2.2.2.2.2.2.2.2.2.2.1 bt287.2.2.2.2.2.2.2.2.2.2.2.2.2.1).bind fun bt306 => ((source_Clean.f k (⟨#[61, 32, 97, 49, 32, 43, 32, 49]⟩ : ByteArray)).bind fun bt308 => ((source_Read.f k (⟨#[61, 49, 43]⟩ : ByteArray)).bind fun bt311 => (if bt287.2.2.2.2.2.2.2.2.2.2.2.2.2.2.2 = 0 then (if bt306.2 = 0 then (if bt308.2.2 = 0 then (if bt287.2.1 = 3 then (if bt306.1.toList = ([39, 49, 50] : List UInt8) then (if bt308.1.toList = ([61, 65, 49, 43, 49] : List UInt8) then (if bt311.2.2.2.2.2.2.2.2.2.2.2.2.2.2.2 = 13 then (some (bt311.2.2.2.2.2.2.2.2.2.2.2.2.2.2.1 == 3)) else (none)) else (none)) else (none)) else (none)) else (none)) else (none)) else (none)))))
set_option maxHeartbeats 8000000 in
set_option maxRecDepth 100000 in
theorem pannierlaw07_wakes.calls (k : Nat)  (r : Bool) (w : World) (hG : G5 w) (h : pannierlaw07_wakes.f k  = some r) :
    Calls Tryz.prog 7 #[] w fun e w' => e = .returned (.bool r) ∧ Below w.heap.size w w' := by
  have hu40 := Tryz.underlying40
  have HB := Aside0.mk (Below.refl w.heap.size w)
  have H : ((source_Read.f k (⟨#[39, 49, 50]⟩ : ByteArray)).bind fun bt287 => ((source_Write.f k bt287.1 bt287.2.1 bt287.2.2.1 bt287.2.2.2.1 bt287.2.2.2.2.1 bt287.2.2.2.2.2.1 bt287.2.2.2.2.2.2.1 bt287.2.2.2.2.2.2.2.1 bt287.2.2.2.2.2.2.2.2.1 bt287.2.2.2.2.2.2.2.2.2.1 bt287.2.2.2.2.2.2.2.2.2.2.1 bt287.2.2.2.2.2.2.2.2.2.2.2.1 bt287.2.2.2.2.2.2.2.2.2.2.2.2.1 bt287.2.2.2.2.2.2.2.2.2.2.2.2.2.1).bind fun bt306 => ((source_Clean.f k (⟨#[61, 32, 97, 49, 32, 43, 32, 49]⟩ : ByteArray)).bind fun bt308 => ((source_Read.f k (⟨#[61, 49, 43]⟩ : ByteArray)).bind fun bt311 => (if bt287.2.2.2.2.2.2.2.2.2.2.2.2.2.2.2 = 0 then (if bt306.2 = 0 then (if bt308.2.2 = 0 then (if bt287.2.1 = 3 then (if bt306.1.toList = ([39, 49, 50] : List UInt8) then (if bt308.1.toList = ([61, 65, 49, 43, 49] : List UInt8) then (if bt311.2.2.2.2.2.2.2.2.2.2.2.2.2.2.2 = 13 then (some (bt311.2.2.2.2.2.2.2.2.2.2.2.2.2.2.1 == 3)) else (none)) else (none)) else (none)) else (none)) else (none)) else (none)) else (none)))))) = some r := h
  clear h
  replace H := Option.bind_eq_some_iff.mp H
  obtain ⟨⟨t287, t288, t289, t290, t291, t292, t293, t294, t295, t296, t297, t298, t299, t300, t303, t304⟩, A10, H⟩ := H
  replace H : ((source_Write.f k t287 t288 t289 t290 t291 t292 t293 t294 t295 t296 t297 t298 t299 t300).bind fun bt306 => ((source_Clean.f k (⟨#[61, 32, 97, 49, 32, 43, 32, 49]⟩ : ByteArray)).bind fun bt308 => ((source_Read.f k (⟨#[61, 49, 43]⟩ : ByteArray)).bind fun bt311 => (if t304 = 0 then (if bt306.2 = 0 then (if bt308.2.2 = 0 then (if t288 = 3 then (if bt306.1.toList = ([39, 49, 50] : List UInt8) then (if bt308.1.toList = ([61, 65, 49, 43, 49] : List UInt8) then (if bt311.2.2.2.2.2.2.2.2.2.2.2.2.2.2.2 = 13 then (some (bt311.2.2.2.2.2.2.2.2.2.2.2.2.2.2.1 == 3)) else (none)) else (none)) else (none)) else (none)) else (none)) else (none)) else (none))))) = some r := H
  have A1 := Aside0.mk A10
  clear A10
  replace H := Option.bind_eq_some_iff.mp H
  obtain ⟨⟨t306, t307⟩, A20, H⟩ := H
  replace H : ((source_Clean.f k (⟨#[61, 32, 97, 49, 32, 43, 32, 49]⟩ : ByteArray)).bind fun bt308 => ((source_Read.f k (⟨#[61, 49, 43]⟩ : ByteArray)).bind fun bt311 => (if t304 = 0 then (if t307 = 0 then (if bt308.2.2 = 0 then (if t288 = 3 then (if t306.toList = ([39, 49, 50] : List UInt8) then (if bt308.1.toList = ([61, 65, 49, 43, 49] : List UInt8) then (if bt311.2.2.2.2.2.2.2.2.2.2.2.2.2.2.2 = 13 then (some (bt311.2.2.2.2.2.2.2.2.2.2.2.2.2.2.1 == 3)) else (none)) else (none)) else (none)) else (none)) else (none)) else (none)) else (none)))) = some r := H
  have A2 := Aside0.mk A20
  clear A20
  replace H := Option.bind_eq_some_iff.mp H
  obtain ⟨⟨t308, t309, t310⟩, A30, H⟩ := H
  replace H : ((source_Read.f k (⟨#[61, 49, 43]⟩ : ByteArray)).bind fun bt311 => (if t304 = 0 then (if t307 = 0 then (if t310 = 0 then (if t288 = 3 then (if t306.toList = ([39, 49, 50] : List UInt8) then (if t308.toList = ([61, 65, 49, 43, 49] : List UInt8) then (if bt311.2.2.2.2.2.2.2.2.2.2.2.2.2.2.2 = 13 then (some (bt311.2.2.2.2.2.2.2.2.2.2.2.2.2.2.1 == 3)) else (none)) else (none)) else (none)) else (none)) else (none)) else (none)) else (none))) = some r := H
  have A3 := Aside0.mk A30
  clear A30
  replace H := Option.bind_eq_some_iff.mp H
  obtain ⟨⟨t311, t312, t313, t314, t315, t316, t317, t318, t319, t320, t321, t322, t323, t324, t327, t328⟩, A40, H⟩ := H
  replace H : (if t304 = 0 then (if t307 = 0 then (if t310 = 0 then (if t288 = 3 then (if t306.toList = ([39, 49, 50] : List UInt8) then (if t308.toList = ([61, 65, 49, 43, 49] : List UInt8) then (if t328 = 13 then (some (t327 == 3)) else (none)) else (none)) else (none)) else (none)) else (none)) else (none)) else (none)) = some r := H
  have A4 := Aside0.mk A40
  clear A40
  by_cases c5 : t304 = 0
  · rw [if_pos c5] at H
    have c5b0 : (t304 == 0) = true := beq_iff_eq.mpr c5
    have c5b1 : (t304 != 0) = false := bne_eq_false_iff_eq.mpr c5
    clear c5
    by_cases c6 : t307 = 0
    · rw [if_pos c6] at H
      have c6b0 : (t307 == 0) = true := beq_iff_eq.mpr c6
      have c6b1 : (t307 != 0) = false := bne_eq_false_iff_eq.mpr c6
      clear c6
      by_cases c7 : t310 = 0
      · rw [if_pos c7] at H
        have c7b0 : (t310 == 0) = true := beq_iff_eq.mpr c7
        have c7b1 : (t310 != 0) = false := bne_eq_false_iff_eq.mpr c7
        clear c7
        by_cases c8 : t288 = 3
        · rw [if_pos c8] at H
          have c8b0 : (t288 == 3) = true := beq_iff_eq.mpr c8
          have c8b1 : (t288 != 3) = false := bne_eq_false_iff_eq.mpr c8
          clear c8
          by_cases c9 : t306.toList = ([39, 49, 50] : List UInt8)
          · rw [if_pos c9] at H
            have c9b0 : (t306.toList == ([39, 49, 50] : List UInt8)) = true := beq_iff_eq.mpr c9
            have c9b1 : (t306.toList != ([39, 49, 50] : List UInt8)) = false := bne_eq_false_iff_eq.mpr c9
            clear c9
            by_cases c10 : t308.toList = ([61, 65, 49, 43, 49] : List UInt8)
            · rw [if_pos c10] at H
              have c10b0 : (t308.toList == ([61, 65, 49, 43, 49] : List UInt8)) = true := beq_iff_eq.mpr c10
              have c10b1 : (t308.toList != ([61, 65, 49, 43, 49] : List UInt8)) = false := bne_eq_false_iff_eq.mpr c10
              clear c10
              by_cases c11 : t328 = 13
              · rw [if_pos c11] at H
                have c11b0 : (t328 == 13) = true := beq_iff_eq.mpr c11
                have c11b1 : (t328 != 13) = false := bne_eq_false_iff_eq.mpr c11
                clear c11
                obtain rfl := Option.some.inj H
                go_enter Tryz.func7, Tryz.ntmps7
                go_wp2_with (first | ((with_reducible refine gate_callee (f := 9) rfl ?_); refine goesL_ (some 13) rfl rfl Tryz.func9 (by kernel_rfl) rfl #[.string (⟨#[39, 49, 50]⟩ : ByteArray)] rfl zz25 ?_; (with_reducible refine (source_Read.calls k (⟨#[39, 49, 50]⟩ : ByteArray) t287 t288 t289 t290 t291 t292 t293 t294 t295 t296 t297 t298 t299 t300 t303 t304 _ ?side1 A1.out).mono ?_); (case side1 => exact gl_5_5 zz1 hG); rintro e w12 ⟨v301, rfl, ho0, hb⟩; refine ⟨_, rfl, ?_⟩; have n0_ := Aside0.mk (Kd.V_lower (Kd.V_mono (ok' := fun k_ => True) ho0 (fun k_ hk_ => trivial)) (below_size zz1)); have n1_ := Aside0.mk (below_step zz1 hb); clear HB; have HO302 := n0_; have HB := n1_; clear n0_ n1_; (try clear hb); (try clear hb2); (try clear hk); (try clear hi); (try clear ho0)) | ((with_reducible refine gate_dst (N := 1) rfl ?_); refine box_event ?hg (N := 1) ?hd (cs := #[.int .i64 0, .int .i64 0, .int .i64 0, .string (⟨#[]⟩ : ByteArray), .int .i64 0, .int .i64 0, .int .i64 0, .string (⟨#[]⟩ : ByteArray), .int .i64 0, .int .i64 0, .int .i64 0, .int .i64 0, .string (⟨#[]⟩ : ByteArray), .slice none 0 0]) (t := 40) ?hr ?_; (case hd => rfl); (case hg => rfl); (case hr => first | (go_simp; done) | (go_simp; rfl)); intro gb305 hg w13 hbox hb; have n0_ := Aside0.mk (Kd.V_below (Kd.V_elderB (by (with_reducible repeat (first | apply Kd.V_alloc | apply Kd.V_drewN | apply Kd.V_drew)); exact HO302.out) gb305 (Nat.le_of_eq hg.symm)) hb); have n1_ := Aside0.mk (below_step zz1 hb); have n2_ := Aside0.mk (hbox); have n3_ := Aside0.mk ((by rw [hg]; exact (below_size zz1) : w.heap.size ≤ gb305)); have n4_ := n3_; clear HO302; clear HB; have HO302 := n0_; have HB := n1_; have BK305 := n2_; have GW305 := n3_; have GE305 := n4_; clear n0_ n1_ n2_ n3_ n4_; clear hb hbox hg; obtain ⟨_, _, _, _, _, _, _, _, _, _, _, _, _, _, _, _, _, _, _, _, _, _, _, _, _, _, _, _⟩ := zC14 BK305.out; obtain ⟨Ao15, co15, eo15⟩ := Kd.V_slice HO302.out; subst eo15) | ((with_reducible refine gate_callee (f := 8) rfl ?_); refine goesL_ (some 19) rfl rfl Tryz.func8 (by kernel_rfl) rfl #[.agg #[.int .i64 t287, .int .i64 t288, .int .i64 t289, .string t290, .int .i64 t291, .int .i64 t292, .int .i64 t293, .string t294, .int .i64 t295, .int .i64 t296, .int .i64 t297, .int .i64 t298, .string t299, .slice Ao15 t300.length co15]] rfl zz25 ?_; (with_reducible refine (source_Write.calls k t287 t288 t289 t290 t291 t292 t293 t294 t295 t296 t297 t298 t299 _ _ t300 t306 t307 _ ?side1 ?side2 ?side3 A2.out).mono ?_); (case side1 => refine (Kd.V_reads' (e := 31) (base := w.heap.size) (ok := fun k_ => (True ∧ k_ ≠ gb305)) (n := t300.length) (c := co15) ?_).2.2; exact (by (with_reducible repeat (first | apply Kd.V_alloc | apply Kd.V_drewN | apply Kd.V_drew)); exact (Kd.V_mono (Kd.V_far (p := ⟨gb305, 13, none⟩) (Kd.V_far (p := ⟨gb305, 12, none⟩) (Kd.V_far (p := ⟨gb305, 11, none⟩) (Kd.V_far (p := ⟨gb305, 10, none⟩) (Kd.V_far (p := ⟨gb305, 9, none⟩) (Kd.V_far (p := ⟨gb305, 8, none⟩) (Kd.V_far (p := ⟨gb305, 7, none⟩) (Kd.V_far (p := ⟨gb305, 6, none⟩) (Kd.V_far (p := ⟨gb305, 5, none⟩) (Kd.V_far (p := ⟨gb305, 4, none⟩) (Kd.V_far (p := ⟨gb305, 3, none⟩) (Kd.V_far (p := ⟨gb305, 2, none⟩) (Kd.V_far (p := ⟨gb305, 1, none⟩) (Kd.V_far (p := ⟨gb305, 0, none⟩) (Kd.V_mono HO302.out (fun k_ hk => (⟨hk, hk.2⟩ : _ ∧ k_ ≠ gb305))) (fun _ hk => hk.2) (.int .i64 t287)) (fun _ hk => hk.2) (.int .i64 t288)) (fun _ hk => hk.2) (.int .i64 t289)) (fun _ hk => hk.2) (.string t290)) (fun _ hk => hk.2) (.int .i64 t291)) (fun _ hk => hk.2) (.int .i64 t292)) (fun _ hk => hk.2) (.int .i64 t293)) (fun _ hk => hk.2) (.string t294)) (fun _ hk => hk.2) (.int .i64 t295)) (fun _ hk => hk.2) (.int .i64 t296)) (fun _ hk => hk.2) (.int .i64 t297)) (fun _ hk => hk.2) (.int .i64 t298)) (fun _ hk => hk.2) (.string t299)) (fun _ hk => hk.2) (.slice Ao15 t300.length co15)) (fun _ h_ => h_.1)))); (case side2 => exact (Kd.V_reads' HO302.out).2.1); (case side3 => exact gl_5_5 zz9 hG); rintro e w16 ⟨rfl, hb⟩; refine ⟨_, rfl, ?_⟩; have n0_ := Aside0.mk (Kd.V_below (by (with_reducible repeat (first | apply Kd.V_alloc | apply Kd.V_drewN | apply Kd.V_drew)); exact (Kd.V_mono (Kd.V_far (p := ⟨gb305, 13, none⟩) (Kd.V_far (p := ⟨gb305, 12, none⟩) (Kd.V_far (p := ⟨gb305, 11, none⟩) (Kd.V_far (p := ⟨gb305, 10, none⟩) (Kd.V_far (p := ⟨gb305, 9, none⟩) (Kd.V_far (p := ⟨gb305, 8, none⟩) (Kd.V_far (p := ⟨gb305, 7, none⟩) (Kd.V_far (p := ⟨gb305, 6, none⟩) (Kd.V_far (p := ⟨gb305, 5, none⟩) (Kd.V_far (p := ⟨gb305, 4, none⟩) (Kd.V_far (p := ⟨gb305, 3, none⟩) (Kd.V_far (p := ⟨gb305, 2, none⟩) (Kd.V_far (p := ⟨gb305, 1, none⟩) (Kd.V_far (p := ⟨gb305, 0, none⟩) (Kd.V_mono HO302.out (fun k_ hk => (⟨hk, hk.2⟩ : _ ∧ k_ ≠ gb305))) (fun _ hk => hk.2) (.int .i64 t287)) (fun _ hk => hk.2) (.int .i64 t288)) (fun _ hk => hk.2) (.int .i64 t289)) (fun _ hk => hk.2) (.string t290)) (fun _ hk => hk.2) (.int .i64 t291)) (fun _ hk => hk.2) (.int .i64 t292)) (fun _ hk => hk.2) (.int .i64 t293)) (fun _ hk => hk.2) (.string t294)) (fun _ hk => hk.2) (.int .i64 t295)) (fun _ hk => hk.2) (.int .i64 t296)) (fun _ hk => hk.2) (.int .i64 t297)) (fun _ hk => hk.2) (.int .i64 t298)) (fun _ hk => hk.2) (.string t299)) (fun _ hk => hk.2) (.slice Ao15 t300.length co15)) (fun _ h_ => h_.1))) hb); have n1_ := Aside0.mk (blk_below (g := gb305) (o := .cells #[.int .i64 t287, .int .i64 t288, .int .i64 t289, .string t290, .int .i64 t291, .int .i64 t292, .int .i64 t293, .string t294, .int .i64 t295, .int .i64 t296, .int .i64 t297, .int .i64 t298, .string t299, .slice Ao15 t300.length co15] 40 (0, 0)) (by refine zB ?_; refine blk_put (cs := #[.int .i64 t287, .int .i64 t288, .int .i64 t289, .string t290, .int .i64 t291, .int .i64 t292, .int .i64 t293, .string t294, .int .i64 t295, .int .i64 t296, .int .i64 t297, .int .i64 t298, .string t299, .slice none 0 0]) ?_ 13 _ rfl; refine zB ?_; refine blk_put (cs := #[.int .i64 t287, .int .i64 t288, .int .i64 t289, .string t290, .int .i64 t291, .int .i64 t292, .int .i64 t293, .string t294, .int .i64 t295, .int .i64 t296, .int .i64 t297, .int .i64 t298, .string (⟨#[]⟩ : ByteArray), .slice none 0 0]) ?_ 12 _ rfl; refine zB ?_; refine blk_put (cs := #[.int .i64 t287, .int .i64 t288, .int .i64 t289, .string t290, .int .i64 t291, .int .i64 t292, .int .i64 t293, .string t294, .int .i64 t295, .int .i64 t296, .int .i64 t297, .int .i64 0, .string (⟨#[]⟩ : ByteArray), .slice none 0 0]) ?_ 11 _ rfl; refine zB ?_; refine blk_put (cs := #[.int .i64 t287, .int .i64 t288, .int .i64 t289, .string t290, .int .i64 t291, .int .i64 t292, .int .i64 t293, .string t294, .int .i64 t295, .int .i64 t296, .int .i64 0, .int .i64 0, .string (⟨#[]⟩ : ByteArray), .slice none 0 0]) ?_ 10 _ rfl; refine zB ?_; refine blk_put (cs := #[.int .i64 t287, .int .i64 t288, .int .i64 t289, .string t290, .int .i64 t291, .int .i64 t292, .int .i64 t293, .string t294, .int .i64 t295, .int .i64 0, .int .i64 0, .int .i64 0, .string (⟨#[]⟩ : ByteArray), .slice none 0 0]) ?_ 9 _ rfl; refine zB ?_; refine blk_put (cs := #[.int .i64 t287, .int .i64 t288, .int .i64 t289, .string t290, .int .i64 t291, .int .i64 t292, .int .i64 t293, .string t294, .int .i64 0, .int .i64 0, .int .i64 0, .int .i64 0, .string (⟨#[]⟩ : ByteArray), .slice none 0 0]) ?_ 8 _ rfl; refine zB ?_; refine blk_put (cs := #[.int .i64 t287, .int .i64 t288, .int .i64 t289, .string t290, .int .i64 t291, .int .i64 t292, .int .i64 t293, .string (⟨#[]⟩ : ByteArray), .int .i64 0, .int .i64 0, .int .i64 0, .int .i64 0, .string (⟨#[]⟩ : ByteArray), .slice none 0 0]) ?_ 7 _ rfl; refine zB ?_; refine blk_put (cs := #[.int .i64 t287, .int .i64 t288, .int .i64 t289, .string t290, .int .i64 t291, .int .i64 t292, .int .i64 0, .string (⟨#[]⟩ : ByteArray), .int .i64 0, .int .i64 0, .int .i64 0, .int .i64 0, .string (⟨#[]⟩ : ByteArray), .slice none 0 0]) ?_ 6 _ rfl; refine zB ?_; refine blk_put (cs := #[.int .i64 t287, .int .i64 t288, .int .i64 t289, .string t290, .int .i64 t291, .int .i64 0, .int .i64 0, .string (⟨#[]⟩ : ByteArray), .int .i64 0, .int .i64 0, .int .i64 0, .int .i64 0, .string (⟨#[]⟩ : ByteArray), .slice none 0 0]) ?_ 5 _ rfl; refine zB ?_; refine blk_put (cs := #[.int .i64 t287, .int .i64 t288, .int .i64 t289, .string t290, .int .i64 0, .int .i64 0, .int .i64 0, .string (⟨#[]⟩ : ByteArray), .int .i64 0, .int .i64 0, .int .i64 0, .int .i64 0, .string (⟨#[]⟩ : ByteArray), .slice none 0 0]) ?_ 4 _ rfl; refine zB ?_; refine blk_put (cs := #[.int .i64 t287, .int .i64 t288, .int .i64 t289, .string (⟨#[]⟩ : ByteArray), .int .i64 0, .int .i64 0, .int .i64 0, .string (⟨#[]⟩ : ByteArray), .int .i64 0, .int .i64 0, .int .i64 0, .int .i64 0, .string (⟨#[]⟩ : ByteArray), .slice none 0 0]) ?_ 3 _ rfl; refine zB ?_; refine blk_put (cs := #[.int .i64 t287, .int .i64 t288, .int .i64 0, .string (⟨#[]⟩ : ByteArray), .int .i64 0, .int .i64 0, .int .i64 0, .string (⟨#[]⟩ : ByteArray), .int .i64 0, .int .i64 0, .int .i64 0, .int .i64 0, .string (⟨#[]⟩ : ByteArray), .slice none 0 0]) ?_ 2 _ rfl; refine zB ?_; refine blk_put (cs := #[.int .i64 t287, .int .i64 0, .int .i64 0, .string (⟨#[]⟩ : ByteArray), .int .i64 0, .int .i64 0, .int .i64 0, .string (⟨#[]⟩ : ByteArray), .int .i64 0, .int .i64 0, .int .i64 0, .int .i64 0, .string (⟨#[]⟩ : ByteArray), .slice none 0 0]) ?_ 1 _ rfl; refine zB ?_; refine blk_put (cs := #[.int .i64 0, .int .i64 0, .int .i64 0, .string (⟨#[]⟩ : ByteArray), .int .i64 0, .int .i64 0, .int .i64 0, .string (⟨#[]⟩ : ByteArray), .int .i64 0, .int .i64 0, .int .i64 0, .int .i64 0, .string (⟨#[]⟩ : ByteArray), .slice none 0 0]) ?_ 0 _ rfl; refine zB ?_; exact BK305.out) hb); have n2_ := Aside0.mk (below_step zz9 hb); clear HO302; clear BK305; clear HB; have HO302 := n0_; have BK305 := n1_; have HB := n2_; clear n0_ n1_ n2_; (try clear hb); (try clear hb2); (try clear hk); (try clear hi)) | ((with_reducible refine gate_callee (f := 16) rfl ?_); refine goesL_ (some 23) rfl rfl Tryz.func16 (by kernel_rfl) rfl #[.string (⟨#[61, 32, 97, 49, 32, 43, 32, 49]⟩ : ByteArray)] rfl zz25 ?_; (with_reducible refine (source_Clean.calls k (⟨#[61, 32, 97, 49, 32, 43, 32, 49]⟩ : ByteArray) t308 t309 t310 _ ?side1 A3.out).mono ?_); (case side1 => exact gl_5_5 zz9 hG); rintro e w17 ⟨rfl, hb⟩; refine ⟨_, rfl, ?_⟩; have n0_ := Aside0.mk (Kd.V_below (by (with_reducible repeat (first | apply Kd.V_alloc | apply Kd.V_drewN | apply Kd.V_drew)); exact HO302.out) hb); have n1_ := Aside0.mk (blk_below (g := gb305) (o := .cells #[.int .i64 t287, .int .i64 t288, .int .i64 t289, .string t290, .int .i64 t291, .int .i64 t292, .int .i64 t293, .string t294, .int .i64 t295, .int .i64 t296, .int .i64 t297, .int .i64 t298, .string t299, .slice Ao15 t300.length co15] 40 (0, 0)) (zB BK305.out) hb); have n2_ := Aside0.mk (below_step zz9 hb); clear HO302; clear BK305; clear HB; have HO302 := n0_; have BK305 := n1_; have HB := n2_; clear n0_ n1_ n2_; (try clear hb); (try clear hb2); (try clear hk); (try clear hi)) | ((with_reducible refine gate_callee (f := 9) rfl ?_); refine goesL_ (some 28) rfl rfl Tryz.func9 (by kernel_rfl) rfl #[.string (⟨#[61, 49, 43]⟩ : ByteArray)] rfl zz25 ?_; (with_reducible refine (source_Read.calls k (⟨#[61, 49, 43]⟩ : ByteArray) t311 t312 t313 t314 t315 t316 t317 t318 t319 t320 t321 t322 t323 t324 t327 t328 _ ?side1 A4.out).mono ?_); (case side1 => exact gl_5_5 zz9 hG); rintro e w18 ⟨v325, rfl, ho0, hb⟩; refine ⟨_, rfl, ?_⟩; have n0_ := Aside0.mk (Kd.V_below (by (with_reducible repeat (first | apply Kd.V_alloc | apply Kd.V_drewN | apply Kd.V_drew)); exact HO302.out) hb); have n1_ := Aside0.mk (Kd.V_lower (Kd.V_mono (ok' := fun k_ => k_ ≠ gb305) ho0 (fun k_ hk_ => (Kd.freshB (g := gb305) (o := .cells #[.int .i64 t287, .int .i64 t288, .int .i64 t289, .string t290, .int .i64 t291, .int .i64 t292, .int .i64 t293, .string t294, .int .i64 t295, .int .i64 t296, .int .i64 t297, .int .i64 t298, .string t299, .slice Ao15 t300.length co15] 40 (0, 0)) (zB BK305.out) k_ hk_))) (below_size zz9)); have n2_ := Aside0.mk (blk_below (g := gb305) (o := .cells #[.int .i64 t287, .int .i64 t288, .int .i64 t289, .string t290, .int .i64 t291, .int .i64 t292, .int .i64 t293, .string t294, .int .i64 t295, .int .i64 t296, .int .i64 t297, .int .i64 t298, .string t299, .slice Ao15 t300.length co15] 40 (0, 0)) (zB BK305.out) hb); have n3_ := Aside0.mk (below_step zz9 hb); clear HO302; clear BK305; clear HB; have HO302 := n0_; have HO326 := n1_; have BK305 := n2_; have HB := n3_; clear n0_ n1_ n2_ n3_; (try clear hb); (try clear hb2); (try clear hk); (try clear hi); (try clear ho0)) | ((with_reducible refine gate_dst (N := 9) rfl ?_); refine box_event ?hg (N := 9) ?hd (cs := #[.int .i64 0, .int .i64 0, .int .i64 0, .string (⟨#[]⟩ : ByteArray), .int .i64 0, .int .i64 0, .int .i64 0, .string (⟨#[]⟩ : ByteArray), .int .i64 0, .int .i64 0, .int .i64 0, .int .i64 0, .string (⟨#[]⟩ : ByteArray), .slice none 0 0]) (t := 40) ?hr ?_; (case hd => rfl); (case hg => rfl); (case hr => first | (go_simp; done) | (go_simp; rfl)); intro gb329 hg w19 hbox hb; have n0_ := Aside0.mk (Kd.V_below (Kd.V_elderB (by (with_reducible repeat (first | apply Kd.V_alloc | apply Kd.V_drewN | apply Kd.V_drew)); exact HO302.out) gb329 (Nat.le_of_eq hg.symm)) hb); have n1_ := Aside0.mk (Kd.V_below (Kd.V_elderB (by (with_reducible repeat (first | apply Kd.V_alloc | apply Kd.V_drewN | apply Kd.V_drew)); exact HO326.out) gb329 (Nat.le_of_eq hg.symm)) hb); have n2_ := Aside0.mk (blk_below (g := gb305) (o := .cells #[.int .i64 t287, .int .i64 t288, .int .i64 t289, .string t290, .int .i64 t291, .int .i64 t292, .int .i64 t293, .string t294, .int .i64 t295, .int .i64 t296, .int .i64 t297, .int .i64 t298, .string t299, .slice Ao15 t300.length co15] 40 (0, 0)) (zB BK305.out) hb); have n3_ := Aside0.mk (below_step zz9 hb); have n4_ := Aside0.mk (hbox); have n5_ := Aside0.mk ((by rw [hg]; exact (below_size zz9) : w.heap.size ≤ gb329)); have n6_ := n5_; have n7_ := Aside0.mk ((by rw [hg]; exact Nat.ne_of_lt (blk_lt (g := gb305) (o := .cells #[.int .i64 t287, .int .i64 t288, .int .i64 t289, .string t290, .int .i64 t291, .int .i64 t292, .int .i64 t293, .string t294, .int .i64 t295, .int .i64 t296, .int .i64 t297, .int .i64 t298, .string t299, .slice Ao15 t300.length co15] 40 (0, 0)) (zB BK305.out)) : gb305 ≠ gb329)); have n8_ := Aside0.mk ((by rw [hg]; exact Nat.ne_of_gt (blk_lt (g := gb305) (o := .cells #[.int .i64 t287, .int .i64 t288, .int .i64 t289, .string t290, .int .i64 t291, .int .i64 t292, .int .i64 t293, .string t294, .int .i64 t295, .int .i64 t296, .int .i64 t297, .int .i64 t298, .string t299, .slice Ao15 t300.length co15] 40 (0, 0)) (zB BK305.out)) : gb329 ≠ gb305)); clear HO302; clear HO326; clear BK305; clear HB; have HO302 := n0_; have HO326 := n1_; have BK305 := n2_; have HB := n3_; have BK329 := n4_; have GW329 := n5_; have GE329 := n6_; have NB305_329 := n7_; have NB329_305 := n8_; clear n0_ n1_ n2_ n3_ n4_ n5_ n6_ n7_ n8_; clear hb hbox hg; have hnb20 := NB329_305.out; have hnc20 := NB305_329.out; obtain ⟨_, _, _, _, _, _, _, _, _, _, _, _, _, _, _, _, _, _, _, _, _, _, _, _, _, _, _, _⟩ := zC14 BK329.out; obtain ⟨Ao22, co22, eo22⟩ := Kd.V_slice HO326.out; subst eo22; obtain ⟨_, _, _, _, _, _, _, _, _, _, _, _, _, _, _, _, _, _, _, _, _, _, _, _, _, _, _, _⟩ := zC14 BK305.out))
                go_ret
                exact ⟨zz26, by repeat first | with_reducible exact HB.out | apply zS | refine below_set ?_ GE305.out | refine below_set ?_ GE329.out | exact HB.out⟩
              · rw [if_neg c11] at H
                exact absurd H (by simp)
            · rw [if_neg c10] at H
              exact absurd H (by simp)
          · rw [if_neg c9] at H
            exact absurd H (by simp)
        · rw [if_neg c8] at H
          exact absurd H (by simp)
      · rw [if_neg c7] at H
        exact absurd H (by simp)
    · rw [if_neg c6] at H
      exact absurd H (by simp)
  · rw [if_neg c5] at H
    exact absurd H (by simp)
end Go.Proofs.YtnomfbmebafolaaGreatDoor.P

namespace Go.Proofs.YtnomfbmebafolaaGreatDoor.P
open Go.RowKit Go.Proofs.YtnomfbmebafolaaGreatDoorW.PrintWords Go.Proofs.YtnomfbmebafolaaGreatDoorW.PrintLast Go.Proofs.YtnomfbmebafolaaGreatDoorW.PrintMore
open M (I64)
set_option linter.unusedVariables false
set_option linter.unusedSimpArgs false
theorem kw_write (K : Nat) (a1 a2 : Int) (a3 : ByteArray) (r : ByteArray) (w : World) (hG : G5 w) (h : source_Write.f K 1 a1 a2 a3 0 0 0 ⟨#[]⟩ 0 0 0 0 ⟨#[]⟩ [] = some (r, 0)) :
    Calls Tryz.prog 8 #[.agg #[.int .i64 1, .int .i64 a1, .int .i64 a2, .string a3, .int .i64 0, .int .i64 0, .int .i64 0, .string ⟨#[]⟩, .int .i64 0, .int .i64 0, .int .i64 0, .int .i64 0, .string ⟨#[]⟩, .slice none 0 0]] w fun e w' => e = .returned (.tuple #[.string r, .int .i64 0]) ∧ Below w.heap.size w w' :=
  source_Write.calls K 1 a1 a2 a3 _ _ _ _ _ _ _ _ _ none 0 [] r 0 w (Kd.V_reads' (A := none) (xs := ([] : List TN)) (c := 0) (Kd.V_nil k31 31 _ 0 (fun _ => True))).2.2 (Nat.le_refl _) hG h
theorem kw_read (K : Nat) (s : ByteArray) (b c : Int) (d : ByteArray) (w : World) (hG : G5 w) (h : source_Read.f K s = some (srGood 1 b c d zN)) :
    Calls Tryz.prog 9 #[.string s] w fun e w' => ∃ A k, e = .returned (.tuple #[.agg #[.int .i64 1, .int .i64 b, .int .i64 c, .string d, .int .i64 0, .int .i64 0, .int .i64 0, .string ⟨#[]⟩, .int .i64 0, .int .i64 0, .int .i64 0, .int .i64 0, .string ⟨#[]⟩, .slice A 0 k], .int .i64 0, .int .i64 0]) ∧ Below w.heap.size w w' := by
  refine (source_Read.calls K s 1 b c d 0 0 0 ⟨#[]⟩ 0 0 0 0 ⟨#[]⟩ [] 0 0 w hG h).mono ?_
  rintro e w' ⟨v, rfl, hv, hb⟩
  obtain ⟨A, k, rfl⟩ := Kd.V_slice hv
  exact ⟨A, k, rfl, hb⟩
set_option maxHeartbeats 8000000 in
set_option maxRecDepth 100000 in
theorem kinds_bare (n : Int) (s d t : ByteArray) (K : Nat) (hs : s.size ≤ 200) (hz : d.size ≤ 300) (h1 : source_Write.f K 1 2 n ⟨#[]⟩ 0 0 0 ⟨#[]⟩ 0 0 0 0 ⟨#[]⟩ [] = some (d, 0)) (h2 : source_Read.f K d = some (srGood 1 2 n ⟨#[]⟩ zN)) (h3 : source_Read.f K ((⟨#[39]⟩ : ByteArray) ++ d) = some (srGood 1 3 0 d zN)) (h4 : source_Write.f K 1 3 0 s 0 0 0 ⟨#[]⟩ 0 0 0 0 ⟨#[]⟩ [] = some (t, 0)) (h5 : source_Read.f K t = some (srGood 1 3 0 s zN)) (hw : pannierlaw07_wakes.f 1000 = some true) (ht : s = t) (W : World) (hG : G5 W) :
    Calls Tryz.prog 4 #[.int .i64 n, .string s] W fun e W' => e = .returned (.bool true) ∧ Below W.heap.size W W' := by
  have hu := Tryz.underlying40
  have hu2 := Tryz.underlying31
  have hu3 := Tryz.underlying24
  have HG := Lib.hid hG
  have HW := Lib.hid hw
  have H1 := Lib.hid h1
  have H2 := Lib.hid h2
  have H3 := Lib.hid h3
  have H4 := Lib.hid h4
  have H5 := Lib.hid h5
  have ds1 : (9223372036854775807 < 1 + d.size) = False := eq_false (by omega)
  have ds2 : (1 + d.size ≤ 9223372036854775807) = True := eq_true (by omega)
  have ds3 : decide (1 + d.size ≤ 9223372036854775807) = true := decide_eq_true (by omega)
  have ss1 : (9223372036854775807 < 1 + s.size) = False := eq_false (by omega)
  have ss2 : (1 + s.size ≤ 9223372036854775807) = True := eq_true (by omega)
  have ss3 : decide (1 + s.size ≤ 9223372036854775807) = true := decide_eq_true (by omega)
  have z1 : decide ((200 : Int) < (s.size : Int)) = false := decide_eq_false (by omega)
  subst ht
  clear hG hw h1 h2 h3 h4 h5 hs hz
  go_enter Tryz.func4, Tryz.ntmps4
  go_wp2_with (first | (go_at_call 8; (fail_if_success have := HB1); (with_reducible refine (kw_write K 2 n ⟨#[]⟩ d _ ?sg H1.out).mono ?_); (case sg => exact gl_5_5 (by with_reducible repeat (first | exact Below.refl W.heap.size W | refine below_alloc ?_ _ | refine Below.drew ?_ | refine pw_below_drewN ?_ _)) HG.out); rintro e w1 ⟨rfl, hb1⟩; have HB1 := Lib.hid (show Below W.heap.size W w1 from below_step (by with_reducible repeat (first | exact Below.refl W.heap.size W | refine below_alloc ?_ _ | refine Below.drew ?_ | refine pw_below_drewN ?_ _)) hb1)) | (go_at_call 9; (have g_ := HB1); (fail_if_success have := HB2); (with_reducible refine (kw_read K d 2 n ⟨#[]⟩ _ ?sg H2.out).mono ?_); (case sg => exact gl_5_5 (by with_reducible repeat (first | exact HB1.out | refine below_alloc ?_ _ | refine Below.drew ?_ | refine pw_below_drewN ?_ _)) HG.out); rintro e w2 ⟨A2, k2, rfl, hb2⟩; have HB2 := Lib.hid (show Below W.heap.size W w2 from below_step (by with_reducible repeat (first | exact HB1.out | refine below_alloc ?_ _ | refine Below.drew ?_ | refine pw_below_drewN ?_ _)) hb2)) | (go_at_call 9; (have g_ := HB2); (fail_if_success have := HB3); (with_reducible refine (kw_read K ((⟨#[39]⟩ : ByteArray) ++ d) 3 0 d _ ?sg H3.out).mono ?_); (case sg => exact gl_5_5 (by with_reducible repeat (first | exact HB2.out | refine below_alloc ?_ _ | refine Below.drew ?_ | refine pw_below_drewN ?_ _)) HG.out); rintro e w3 ⟨A3, k3, rfl, hb3⟩; have HB3 := Lib.hid (show Below W.heap.size W w3 from below_step (by with_reducible repeat (first | exact HB2.out | refine below_alloc ?_ _ | refine Below.drew ?_ | refine pw_below_drewN ?_ _)) hb3); have BA3 := Lib.hid (blk_below (blk_new w2 (.cells #[.int .i64 1, .int .i64 2, .int .i64 n, .string (⟨#[]⟩ : ByteArray), .int .i64 0, .int .i64 0, .int .i64 0, .string (⟨#[]⟩ : ByteArray), .int .i64 0, .int .i64 0, .int .i64 0, .int .i64 0, .string (⟨#[]⟩ : ByteArray), .slice A2 0 k2] 40)) hb3); obtain ⟨⟨ba3_0, ba3_1, ba3_2, ba3_3, ba3_4, ba3_5, ba3_6, ba3_7, ba3_8, ba3_9, ba3_10, ba3_11, ba3_12, ba3_13⟩, -⟩ := z14 BA3.out; have hlt3 := blk_lt BA3.out) | (go_at_call 8; (have g_ := HB3); (fail_if_success have := HB4); (with_reducible refine (kw_write K 3 0 s s _ ?sg H4.out).mono ?_); (case sg => exact gl_5_5 (by with_reducible repeat (first | exact HB3.out | refine below_alloc ?_ _ | refine Below.drew ?_ | refine pw_below_drewN ?_ _)) HG.out); rintro e w4 ⟨rfl, hb4⟩; have HB4 := Lib.hid (show Below W.heap.size W w4 from below_step (by with_reducible repeat (first | exact HB3.out | refine below_alloc ?_ _ | refine Below.drew ?_ | refine pw_below_drewN ?_ _)) hb4)) | (go_at_call 9; (have g_ := HB4); (fail_if_success have := HB5); (with_reducible refine (kw_read K s 3 0 s _ ?sg H5.out).mono ?_); (case sg => exact gl_5_5 (by with_reducible repeat (first | exact HB4.out | refine below_alloc ?_ _ | refine Below.drew ?_ | refine pw_below_drewN ?_ _)) HG.out); rintro e w5 ⟨A5, k5, rfl, hb5⟩; have HB5 := Lib.hid (show Below W.heap.size W w5 from below_step (by with_reducible repeat (first | exact HB4.out | refine below_alloc ?_ _ | refine Below.drew ?_ | refine pw_below_drewN ?_ _)) hb5)) | (go_at_call 7; (with_reducible refine (pannierlaw07_wakes.calls 1000 true _ ?sg HW.out).mono ?_); (case sg => exact gl_5_5 (by with_reducible repeat (first | exact HB5.out | refine below_alloc ?_ _ | refine Below.drew ?_ | refine pw_below_drewN ?_ _)) HG.out); rintro e w6 ⟨rfl, hb6⟩))
  go_ret
  exact ⟨rfl, below_step (by with_reducible repeat (first | exact HB5.out | refine below_alloc ?_ _ | refine Below.drew ?_ | refine pw_below_drewN ?_ _)) hb6⟩
set_option maxHeartbeats 8000000 in
set_option maxRecDepth 100000 in
theorem kinds_quoted (n : Int) (s d t : ByteArray) (K : Nat) (hs : s.size ≤ 200) (hz : d.size ≤ 300) (h1 : source_Write.f K 1 2 n ⟨#[]⟩ 0 0 0 ⟨#[]⟩ 0 0 0 0 ⟨#[]⟩ [] = some (d, 0)) (h2 : source_Read.f K d = some (srGood 1 2 n ⟨#[]⟩ zN)) (h3 : source_Read.f K ((⟨#[39]⟩ : ByteArray) ++ d) = some (srGood 1 3 0 d zN)) (h4 : source_Write.f K 1 3 0 s 0 0 0 ⟨#[]⟩ 0 0 0 0 ⟨#[]⟩ [] = some (t, 0)) (h5 : source_Read.f K t = some (srGood 1 3 0 s zN)) (hw : pannierlaw07_wakes.f 1000 = some true) (ht : t = (⟨#[39]⟩ : ByteArray) ++ s) (W : World) (hG : G5 W) :
    Calls Tryz.prog 4 #[.int .i64 n, .string s] W fun e W' => e = .returned (.bool true) ∧ Below W.heap.size W W' := by
  have hu := Tryz.underlying40
  have hu2 := Tryz.underlying31
  have hu3 := Tryz.underlying24
  have HG := Lib.hid hG
  have HW := Lib.hid hw
  have H1 := Lib.hid h1
  have H2 := Lib.hid h2
  have H3 := Lib.hid h3
  have H4 := Lib.hid h4
  have H5 := Lib.hid h5
  have ds1 : (9223372036854775807 < 1 + d.size) = False := eq_false (by omega)
  have ds2 : (1 + d.size ≤ 9223372036854775807) = True := eq_true (by omega)
  have ds3 : decide (1 + d.size ≤ 9223372036854775807) = true := decide_eq_true (by omega)
  have ss1 : (9223372036854775807 < 1 + s.size) = False := eq_false (by omega)
  have ss2 : (1 + s.size ≤ 9223372036854775807) = True := eq_true (by omega)
  have ss3 : decide (1 + s.size ≤ 9223372036854775807) = true := decide_eq_true (by omega)
  have z1 : decide ((200 : Int) < (s.size : Int)) = false := decide_eq_false (by omega)
  subst ht
  have hq : (((⟨#[39]⟩ : ByteArray) ++ s).toList == s.toList) = false := by
    refine beq_eq_false_iff_ne.2 fun e_ => ?_
    have l_ := congrArg List.length e_
    rw [ByteArray.toList_eq, ByteArray.toList_eq] at l_
    simp at l_
  clear hG hw h1 h2 h3 h4 h5 hs hz
  go_enter Tryz.func4, Tryz.ntmps4
  go_wp2_with (first | (go_at_call 8; (fail_if_success have := HB1); (with_reducible refine (kw_write K 2 n ⟨#[]⟩ d _ ?sg H1.out).mono ?_); (case sg => exact gl_5_5 (by with_reducible repeat (first | exact Below.refl W.heap.size W | refine below_alloc ?_ _ | refine Below.drew ?_ | refine pw_below_drewN ?_ _)) HG.out); rintro e w1 ⟨rfl, hb1⟩; have HB1 := Lib.hid (show Below W.heap.size W w1 from below_step (by with_reducible repeat (first | exact Below.refl W.heap.size W | refine below_alloc ?_ _ | refine Below.drew ?_ | refine pw_below_drewN ?_ _)) hb1)) | (go_at_call 9; (have g_ := HB1); (fail_if_success have := HB2); (with_reducible refine (kw_read K d 2 n ⟨#[]⟩ _ ?sg H2.out).mono ?_); (case sg => exact gl_5_5 (by with_reducible repeat (first | exact HB1.out | refine below_alloc ?_ _ | refine Below.drew ?_ | refine pw_below_drewN ?_ _)) HG.out); rintro e w2 ⟨A2, k2, rfl, hb2⟩; have HB2 := Lib.hid (show Below W.heap.size W w2 from below_step (by with_reducible repeat (first | exact HB1.out | refine below_alloc ?_ _ | refine Below.drew ?_ | refine pw_below_drewN ?_ _)) hb2)) | (go_at_call 9; (have g_ := HB2); (fail_if_success have := HB3); (with_reducible refine (kw_read K ((⟨#[39]⟩ : ByteArray) ++ d) 3 0 d _ ?sg H3.out).mono ?_); (case sg => exact gl_5_5 (by with_reducible repeat (first | exact HB2.out | refine below_alloc ?_ _ | refine Below.drew ?_ | refine pw_below_drewN ?_ _)) HG.out); rintro e w3 ⟨A3, k3, rfl, hb3⟩; have HB3 := Lib.hid (show Below W.heap.size W w3 from below_step (by with_reducible repeat (first | exact HB2.out | refine below_alloc ?_ _ | refine Below.drew ?_ | refine pw_below_drewN ?_ _)) hb3); have BA3 := Lib.hid (blk_below (blk_new w2 (.cells #[.int .i64 1, .int .i64 2, .int .i64 n, .string (⟨#[]⟩ : ByteArray), .int .i64 0, .int .i64 0, .int .i64 0, .string (⟨#[]⟩ : ByteArray), .int .i64 0, .int .i64 0, .int .i64 0, .int .i64 0, .string (⟨#[]⟩ : ByteArray), .slice A2 0 k2] 40)) hb3); obtain ⟨⟨ba3_0, ba3_1, ba3_2, ba3_3, ba3_4, ba3_5, ba3_6, ba3_7, ba3_8, ba3_9, ba3_10, ba3_11, ba3_12, ba3_13⟩, -⟩ := z14 BA3.out; have hlt3 := blk_lt BA3.out) | (go_at_call 8; (have g_ := HB3); (fail_if_success have := HB4); (with_reducible refine (kw_write K 3 0 s ((⟨#[39]⟩ : ByteArray) ++ s) _ ?sg H4.out).mono ?_); (case sg => exact gl_5_5 (by with_reducible repeat (first | exact HB3.out | refine below_alloc ?_ _ | refine Below.drew ?_ | refine pw_below_drewN ?_ _)) HG.out); rintro e w4 ⟨rfl, hb4⟩; have HB4 := Lib.hid (show Below W.heap.size W w4 from below_step (by with_reducible repeat (first | exact HB3.out | refine below_alloc ?_ _ | refine Below.drew ?_ | refine pw_below_drewN ?_ _)) hb4)) | (go_at_call 9; (have g_ := HB4); (fail_if_success have := HB5); (with_reducible refine (kw_read K ((⟨#[39]⟩ : ByteArray) ++ s) 3 0 s _ ?sg H5.out).mono ?_); (case sg => exact gl_5_5 (by with_reducible repeat (first | exact HB4.out | refine below_alloc ?_ _ | refine Below.drew ?_ | refine pw_below_drewN ?_ _)) HG.out); rintro e w5 ⟨A5, k5, rfl, hb5⟩; have HB5 := Lib.hid (show Below W.heap.size W w5 from below_step (by with_reducible repeat (first | exact HB4.out | refine below_alloc ?_ _ | refine Below.drew ?_ | refine pw_below_drewN ?_ _)) hb5)) | (go_at_call 7; (with_reducible refine (pannierlaw07_wakes.calls 1000 true _ ?sg HW.out).mono ?_); (case sg => exact gl_5_5 (by with_reducible repeat (first | exact HB5.out | refine below_alloc ?_ _ | refine Below.drew ?_ | refine pw_below_drewN ?_ _)) HG.out); rintro e w6 ⟨rfl, hb6⟩))
  go_ret
  exact ⟨rfl, below_step (by with_reducible repeat (first | exact HB5.out | refine below_alloc ?_ _ | refine Below.drew ?_ | refine pw_below_drewN ?_ _)) hb6⟩
end Go.Proofs.YtnomfbmebafolaaGreatDoor.P

namespace Go.Proofs.YtnomfbmebafolaaGreatDoor.P
open Go.RowKit Go.Proofs.YtnomfbmebafolaaGreatDoorW.PrintWords Go.Proofs.YtnomfbmebafolaaGreatDoorW.PrintLast Go.Proofs.YtnomfbmebafolaaGreatDoorW.PrintMore
open M (I64)
set_option linter.unusedVariables false
set_option linter.unusedSimpArgs false
abbrev LTok := S137
def cutL : Nat → List UInt8 → Nat → List LTok × Int × Int
  | 0, _, _ => ([], 0, 0)
  | _ + 1, [], _ => ([], 0, 0)
  | d + 1, c :: r, n =>
    if kindOf (c.toNat : Int) = 1 then cutL d r (n + 1) else
      match oneV ⟨(c :: r).toArray⟩ with
      | (ta, tb, tc, _, tm) =>
        if tm = 0 then ([], (n : Int), 12) else
          match cutL d ((c :: r).drop tm.toNat) (n + tm.toNat) with
          | (ts, p, e) => if e = 0 then (⟨ta, tb, tc, (n : Int)⟩ :: ts, p, e) else ([], p, e)
def cutR (R : List LTok × Int × Int) : List LTok × Int × Int := if R.2.2 = 0 then (R.1, 0, 0) else ([], R.2.1, R.2.2)
theorem xrest_size (s : ByteArray) (n : Nat) : (s.extract n s.size).size = s.size - n := by rw [ByteArray.size_extract]; omega
theorem xrest (s : ByteArray) (n : Nat) : s.extract n s.size = ⟨(s.data.toList.drop n).toArray⟩ := by
  apply ByteArray.ext
  rw [← Array.toList_inj, ByteArray.data_extract, Array.toList_extract, List.extract_eq_take_drop]
  rw [List.take_of_length_le (by simp)]
theorem xtextF_len (s : ByteArray) : ∀ (d i : Nat) (out : List UInt8), ∃ w : Nat, (textF s d i out).2 = (w : Int) ∧ w ≤ s.size
  | 0, i, out => ⟨0, rfl, Nat.zero_le _⟩
  | d + 1, i, out => by
    unfold textF
    split
    · split
      · split
        · exact ⟨i + 1, rfl, by omega⟩
        · exact xtextF_len s d (i + 2) _
      · exact xtextF_len s d (i + 1) _
    · exact ⟨0, rfl, Nat.zero_le _⟩
theorem xoneV_len (s : ByteArray) (h : 0 < s.size) : ∃ w : Nat, (oneV s).2.2.2.2 = (w : Int) ∧ w ≤ s.size := by
  unfold oneV
  split
  · split
    · exact ⟨_, rfl, (runN_le digP s s.size 0 (by omega)).1⟩
    · exact ⟨0, rfl, Nat.zero_le _⟩
  · split
    · exact xtextF_len s _ _ _
    · split
      · exact ⟨_, rfl, (runN_le wordP s s.size 0 (by omega)).1⟩
      · split
        · exact ⟨_, rfl, (signs_le s h).2⟩
        · exact ⟨0, rfl, Nat.zero_le _⟩
theorem xone_some (s : ByteArray) (n : Nat) (hs : s.size ≤ 1000000000) (hn : n < s.size) : lex_one.f (s.extract n s.size) = some (oneV (s.extract n s.size)) := by
  unfold lex_one.f; rw [if_pos (by rw [xrest_size]; omega)]
theorem xkind_any (s : ByteArray) (i k : Nat) (hk : 20 ≤ k) : lex_kind.f k (bt s (i : Int)) = some (kindOf (bt s (i : Int))) := at_rounds (lex_kind.mono _) hk (kind_bt s i)
theorem xbt (s : ByteArray) (n : Nat) (h : n < s.size) : bt s (n : Int) = (((s.data.toList[n]'(by simpa using h)).toNat : Nat) : Int) := by
  rw [bt_bu]
  unfold bu
  rw [List.getD_eq_getElem?_getD, List.getElem?_eq_getElem (by simpa using h)]
  rfl
def addR (l : List LTok) (R : List LTok × Int × Int) : List LTok × Int × Int := if R.2.2 = 0 then (l ++ R.1, 0, 0) else ([], R.2.1, R.2.2)
theorem addR_ok (l ts : List LTok) (p : Int) : addR l (ts, p, 0) = (l ++ ts, 0, 0) := rfl
theorem addR_no (l ts : List LTok) (p : Int) {e : Int} (h : e ≠ 0) : addR l (ts, p, e) = ([], p, e) := if_neg h
theorem cutL_loop (s : ByteArray) (hs : s.size ≤ 1000000) : ∀ (d n k : Nat) (l : List LTok), s.size - n ≤ d → n ≤ s.size → d + 20 < k → l.length ≤ n →
    lex_Cut.l0 k s l (n : Int) = some (addR l (cutL d (s.data.toList.drop n) n)) := by
  intro d
  induction d with
  | zero =>
    intro n k l hd hn hk hl
    obtain ⟨k, rfl⟩ : ∃ m, k = m + 1 := ⟨k - 1, by omega⟩
    rw [lex_Cut.l0, if_neg (by omega), cutL, addR_ok, List.append_nil]
  | succ d ih =>
    intro n k l hd hn hk hl
    obtain ⟨k, rfl⟩ : ∃ m, k = m + 1 := ⟨k - 1, by omega⟩
    rw [lex_Cut.l0]
    by_cases hlt : n < s.size
    · have hlt' : n < s.data.toList.length := by simpa using hlt
      have hd2 : s.data.toList.drop n = s.data.toList[n] :: s.data.toList.drop (n + 1) := List.drop_eq_getElem_cons hlt'
      rw [if_pos (by omega), if_pos (by omega), xkind_any s n k (by omega), Option.bind_some, hd2, cutL, ← xbt s n hlt]
      by_cases hb : kindOf (bt s (n : Int)) = 1
      · rw [if_pos hb, if_pos hb, show wrap64 ((n : Int) + 1) = ((n + 1 : Nat) : Int) by rw [M.wrap64_id (by unfold I64; omega)]; omega]
        exact ih (n + 1) k l (by omega) (by omega) (by omega) (by omega)
      · rw [if_neg hb, if_neg hb, if_pos (by omega)]
        have ho : lex_one.f (s.extract ((n : Int)).toNat s.size) = some (oneV (s.extract n s.size)) := xone_some s n (by omega) hlt
        obtain ⟨w, hw, hwl⟩ := xoneV_len (s.extract n s.size) (by rw [xrest_size]; omega)
        rw [xrest_size] at hwl
        rw [ho, Option.bind_some, ← hd2, ← xrest]
        clear ho
        generalize oneV (s.extract n s.size) = t at *
        obtain ⟨ta, tb, tc, td, tm⟩ := t
        have hw' : tm = (w : Int) := hw
        subst hw'
        dsimp only
        by_cases hz : (w : Int) = 0
        · rw [if_pos hz, if_pos hz]; rfl
        · rw [if_neg hz, if_neg hz, if_pos (by omega)]
          have hwr : wrap64 ((n : Int) + (w : Int)) = ((n + w : Nat) : Int) := by rw [M.wrap64_id (by unfold I64; omega)]; omega
          have b3 : (l ++ [(⟨ta, tb, tc, (n : Int)⟩ : LTok)]).length ≤ n + w := by rw [List.length_append, List.length_singleton]; omega
          have := ih (n + w) k (l ++ [(⟨ta, tb, tc, (n : Int)⟩ : LTok)]) (by omega) (by omega) (by omega) b3
          rw [hwr, this, List.drop_drop, show ((w : Int)).toNat = w by omega]
          generalize cutL d (s.data.toList.drop (n + w)) (n + w) = R
          obtain ⟨ts, p, e⟩ := R
          dsimp only
          by_cases he : e = 0
          · subst he; rw [if_pos rfl, addR_ok, addR_ok, List.append_assoc]; rfl
          · rw [if_neg he, addR_no _ _ _ he, addR_no _ _ _ he]
    · rw [if_neg (by omega), List.drop_of_length_le (by simpa using Nat.le_of_not_lt hlt), cutL, addR_ok, List.append_nil]
theorem cut_list (s : ByteArray) (hs : s.size ≤ 300) (k : Nat) (hk : 400 ≤ k) : lex_Cut.f k s = some (cutR (cutL s.size s.data.toList 0)) := by
  unfold lex_Cut.f
  rw [if_neg (by omega)]
  have h := cutL_loop s (by omega) s.size 0 k [] (by omega) (Nat.zero_le _) (by omega) (Nat.le_refl _)
  rw [List.drop_zero] at h
  exact h
end Go.Proofs.YtnomfbmebafolaaGreatDoor.P

namespace Go.Proofs.YtnomfbmebafolaaGreatDoor.P
open Go.RowKit Go.Proofs.YtnomfbmebafolaaGreatDoorW.PrintWords Go.Proofs.YtnomfbmebafolaaGreatDoorW.PrintLast Go.Proofs.YtnomfbmebafolaaGreatDoorW.PrintMore
open M (I64)
set_option linter.unusedVariables false
set_option linter.unusedSimpArgs false
theorem cp_runN (p : Int → Bool) (s : ByteArray) (d i : Nat) : runN p s (d + 1) i = if i < s.size then (if p (kindOf (bt s (i : Int))) = true then runN p s d (i + 1) else i) else i := rfl
theorem cp_rest (s : ByteArray) (n m : Nat) : (s.extract n m).data.toList = (s.data.toList.drop n).take (m - n) := by
  rw [ByteArray.data_extract, Array.toList_extract, List.extract_eq_take_drop]
theorem cp_len (l : List UInt8) : (⟨l.toArray⟩ : ByteArray).size = l.length := rfl
theorem one_w (c : UInt8) (r : List UInt8) : ∃ w : Nat, (oneV ⟨(c :: r).toArray⟩).2.2.2.2 = (w : Int) ∧ w ≤ r.length + 1 := xoneV_len ⟨(c :: r).toArray⟩ (by rw [cp_len, List.length_cons]; omega)
theorem cutL_nil (d n : Nat) : cutL d [] n = ([], 0, 0) := by cases d <;> rfl
def NameB (s : ByteArray) : Prop := 0 < s.size ∧ ∀ i, i < s.size → (65 ≤ (bu s i).toNat ∧ (bu s i).toNat ≤ 90) ∨ (0 < i ∧ 48 ≤ (bu s i).toNat ∧ (bu s i).toNat ≤ 57)
structure TokOk (L : Nat) (t : LTok) : Prop where
  num : t.f0 = 1 → 0 ≤ t.f1
  name : t.f0 = 3 → NameB t.f2
  size : t.f2.size ≤ L
  at_ : 0 ≤ t.f3
end Go.Proofs.YtnomfbmebafolaaGreatDoor.P

namespace Go.Proofs.YtnomfbmebafolaaGreatDoor.P
open Go.RowKit Go.Proofs.YtnomfbmebafolaaGreatDoorW.PrintWords Go.Proofs.YtnomfbmebafolaaGreatDoorW.PrintLast Go.Proofs.YtnomfbmebafolaaGreatDoorW.PrintMore
open M (I64)
set_option linter.unusedVariables false
set_option linter.unusedSimpArgs false
abbrev opsL : List ByteArray := [⟨#[61]⟩, ⟨#[60, 62]⟩, ⟨#[60]⟩, ⟨#[60, 61]⟩, ⟨#[62]⟩, ⟨#[62, 61]⟩, ⟨#[43]⟩, ⟨#[45]⟩, ⟨#[38]⟩, ⟨#[42]⟩, ⟨#[47]⟩, ⟨#[37]⟩, ⟨#[94]⟩]
theorem inL_iff (l : List ByteArray) (s : ByteArray) : inL l s = true ↔ ∃ x ∈ l, x.toList = s.toList := by
  unfold inL; rw [List.any_eq_true]; simp
theorem inL_sub {l m : List ByteArray} (h : ∀ x ∈ l, x ∈ m) (s : ByteArray) (hs : inL l s = true) : inL m s = true := by
  rw [inL_iff] at hs ⊢
  obtain ⟨x, hx, e⟩ := hs
  exact ⟨x, h x hx, e⟩
theorem six_ops : ∀ s, inL sixL s = true → inL opsL s = true := inL_sub (by intro x hx; simp only [sixL, opsL, List.mem_cons, List.not_mem_nil, or_false] at hx ⊢; rcases hx with h | h | h | h | h | h <;> simp [h])
theorem sum_ops : ∀ s, inL sumL s = true → inL opsL s = true := inL_sub (by intro x hx; simp only [sumL, opsL, List.mem_cons, List.not_mem_nil, or_false] at hx ⊢; rcases hx with h | h | h <;> simp [h])
theorem prod_ops : ∀ s, inL prodL s = true → inL opsL s = true := inL_sub (by intro x hx; simp only [prodL, opsL, List.mem_cons, List.not_mem_nil, or_false] at hx ⊢; rcases hx with h | h | h <;> simp [h])
theorem allF_any {k j : Nat} (h : k ≤ j) {t : TN} {r : Bool} (e : allF k t = some r) : allF j t = some r := at_rounds (g := fun k => allF k t) (fun k r h => allF_mono k t r h) h e
theorem sameF_any {k j : Nat} (h : k ≤ j) {a b : TN} {r : Bool} (e : sameF k a b = some r) : sameF j a b = some r := at_rounds (g := fun k => sameF k a b) (fun k r h => sameF_mono k a b r h) h e
theorem depO_any {k j : Nat} (h : k ≤ j) {t : TN} {r : Int} (e : depO k t = some r) : depO j t = some r := at_rounds (g := fun k => depO k t) (fun k r h => tree_depth.mono _ _ _ _ _ _ _ _ _ _ k r h) h e
theorem oneO_any {k j : Nat} (h : k ≤ j) {t : TN} {r : Bool} (e : oneO k t = some r) : oneO j t = some r := at_rounds (g := fun k => oneO k t) (fun k r h => tree_one.mono _ _ _ _ _ _ _ _ _ _ k r h) h e
structure Fine (c : Nat) (t : TN) : Prop where
  few : ∀ (v : Int) (k : Nat), (c : Int) ≤ v → c < k → fewF k t v = (true, v - c)
  all : ∃ k, allF k t = some true
  dep : ∃ k d, depO k t = some d ∧ 1 ≤ d ∧ d ≤ c
  same : ∃ k, sameF k t t = some true
structure FineL (c : Nat) (l : List TN) : Prop where
  few : ∀ (v : Int) (k : Nat), (c : Int) ≤ v → c < k → fewL (fewF k) l v = (true, v - c)
  all : ∃ k, ∀ x ∈ l, allF k x = some true
  dep : ∃ k, ∀ x ∈ l, ∃ d, depO k x = some d ∧ 1 ≤ d ∧ d ≤ c
  same : ∃ k, ∀ x ∈ l, sameF k x x = some true
theorem fineL_nil : FineL 0 [] := ⟨fun v k _ _ => by rw [fewL]; simp, ⟨0, fun x hx => by cases hx⟩, ⟨0, fun x hx => by cases hx⟩, ⟨0, fun x hx => by cases hx⟩⟩
theorem fewL_app {f : TN → Int → Bool × Int} {b : TN} : ∀ (l : List TN) (v v' : Int), fewL f l v = (true, v') → fewL f (l ++ [b]) v = fewL f [b] v' := by
  intro l
  induction l with
  | nil => intro v v' h; rw [fewL] at h; cases h; rfl
  | cons a l ih =>
    intro v v' h
    rw [List.cons_append, fewL]
    rw [fewL] at h
    cases e : f a v with
    | mk x y =>
      rw [e] at h
      cases x with
      | false => dsimp only at h; cases h
      | true => dsimp only at h ⊢; exact ih _ _ h
theorem fineL_snoc {c d : Nat} {l : List TN} {b : TN} (h : FineL c l) (hb : Fine d b) : FineL (c + d) (l ++ [b]) := by
  refine ⟨fun v k h1 h2 => ?_, ?_, ?_, ?_⟩
  · rw [fewL_app l v _ (h.few v k (by omega) (by omega)), fewL, hb.few (v - c) k (by omega) (by omega)]
    dsimp only
    rw [fewL]
    congr 1; omega
  · obtain ⟨k, hk⟩ := h.all
    obtain ⟨j, hj⟩ := hb.all
    refine ⟨k + j, fun x hx => ?_⟩
    rcases List.mem_append.1 hx with hx | hx
    · exact allF_any (by omega) (hk x hx)
    · rw [List.mem_singleton.1 hx]; exact allF_any (by omega) hj
  · obtain ⟨k, hk⟩ := h.dep
    obtain ⟨j, e, hj, h1, h2⟩ := hb.dep
    refine ⟨k + j, fun x hx => ?_⟩
    rcases List.mem_append.1 hx with hx | hx
    · obtain ⟨d', g1, g2, g3⟩ := hk x hx
      exact ⟨d', depO_any (by omega) g1, g2, by omega⟩
    · rw [List.mem_singleton.1 hx]; exact ⟨e, depO_any (by omega) hj, h1, by omega⟩
  · obtain ⟨k, hk⟩ := h.same
    obtain ⟨j, hj⟩ := hb.same
    refine ⟨k + j, fun x hx => ?_⟩
    rcases List.mem_append.1 hx with hx | hx
    · exact sameF_any (by omega) (hk x hx)
    · rw [List.mem_singleton.1 hx]; exact sameF_any (by omega) hj
theorem allL_of {f : TN → Option Bool} : ∀ (l : List TN), (∀ x ∈ l, f x = some true) → allL f l = some true := by
  intro l
  induction l with
  | nil => intro _; rfl
  | cons a l ih =>
    intro h
    rw [allL, h a (List.mem_cons_self ..)]
    exact ih fun x hx => h x (List.mem_cons_of_mem _ hx)
theorem sameL_of {f : TN → TN → Option Bool} : ∀ (l : List TN), (∀ x ∈ l, f x x = some true) → sameL f l l = some true := by
  intro l
  induction l with
  | nil => intro _; rfl
  | cons a l ih =>
    intro h
    rw [sameL, h a (List.mem_cons_self ..)]
    exact ih fun x hx => h x (List.mem_cons_of_mem _ hx)
theorem rdN {l : List TN} {i : Nat} (h : i < l.length) : rd_T31 l (i : Int) = l[i] := by
  unfold rd_T31; simp [List.getD_eq_getElem?_getD, h]
theorem dep_loop (l : List TN) (hl : l.length ≤ 1000) (K : Nat) (B : Nat) (hM : B ≤ 1000) (h : ∀ x ∈ l, ∃ d, depO K x = some d ∧ 1 ≤ d ∧ d ≤ B) : ∀ (j i k : Nat) (m : Int), i + j = l.length → K + j < k → 0 ≤ m → m ≤ B → ∃ d, tree_depth.l0 k m l (l.length : Int) (i : Int) = some d ∧ 1 ≤ d ∧ d ≤ (B : Int) + 1 := by
  intro j
  induction j with
  | zero =>
    intro i k m hi hk h0 h1
    obtain ⟨k, rfl⟩ : ∃ e, k = e + 1 := ⟨k - 1, by omega⟩
    rw [tree_depth.l0, if_neg (by omega)]
    refine ⟨_, rfl, ?_⟩
    rw [M.wrap64_id (by unfold I64; omega)]
    omega
  | succ j ih =>
    intro i k m hi hk h0 h1
    obtain ⟨k, rfl⟩ : ∃ e, k = e + 1 := ⟨k - 1, by omega⟩
    rw [tree_depth.l0, if_pos (by omega), if_pos (by omega), if_pos (by omega), rdN (by omega)]
    obtain ⟨d, e, d1, d2⟩ := h _ (List.getElem_mem (show i < l.length by omega))
    have e2 := depO_any (show K ≤ k by omega) e
    unfold depO at e2
    rw [e2, Option.bind_some, show wrap64 ((i : Int) + 1) = ((i + 1 : Nat) : Int) by rw [M.wrap64_id (by unfold I64; omega)]; omega]
    have hm : 0 ≤ mx m d ∧ mx m d ≤ B := by unfold mx; split <;> omega
    exact ih (i + 1) k (mx m d) (by omega) (by omega) hm.1 hm.2
theorem fine_node {c : Nat} {t : TN} (h : FineL c t.f4) (ho : oneO 2000 t = some true) (hc : c ≤ 1000) (hl : t.f4.length ≤ 1000) : Fine (c + 1) t := by
  refine ⟨fun v k h1 h2 => ?_, ?_, ?_, ?_⟩
  · obtain ⟨k, rfl⟩ : ∃ e, k = e + 1 := ⟨k - 1, by omega⟩
    rw [fewF, if_neg (by omega), h.few (v - 1) k (by omega) (by omega)]
    congr 1; omega
  · obtain ⟨k, hk⟩ := h.all
    refine ⟨k + 2000 + 1, ?_⟩
    rw [allF, oneO_any (by omega) ho]
    exact allL_of _ fun x hx => allF_any (by omega) (hk x hx)
  · obtain ⟨K, hK⟩ := h.dep
    obtain ⟨d, e, h1, h2⟩ := dep_loop t.f4 hl K c hc hK t.f4.length 0 (K + t.f4.length + 1) 0 (by omega) (by omega) (by omega) (by omega)
    refine ⟨K + t.f4.length + 1 + 1, d, ?_, h1, by omega⟩
    unfold depO
    rw [tree_depth.f]
    exact e
  · obtain ⟨k, hk⟩ := h.same
    refine ⟨k + 1, ?_⟩
    have hv : valO t t = some true := by unfold valO value_Same.f; simp
    rw [sameF, if_pos rfl, hv]
    dsimp only
    rw [if_pos ⟨rfl, rfl, rfl, rfl⟩, if_pos (by simp), if_pos rfl]
    exact sameL_of _ hk
theorem fine_leaf {t : TN} (h : t.f4 = []) (ho : oneO 2000 t = some true) : Fine 1 t := fine_node (c := 0) (by rw [h]; exact fineL_nil) ho (by omega) (by rw [h]; decide)
theorem nil_list : (⟨#[]⟩ : ByteArray).toList = [] := by rw [ByteArray.toList_eq]
theorem fine_int {v : Int} (h : 0 ≤ v) : Fine 1 (constT ⟨2, v, ⟨#[]⟩⟩) := by
  refine fine_leaf rfl ?_
  simp [oneO, constT, tree_one.f, tree_fields.f, value_Good.f, nil_list, h]
theorem fine_bool (v : Int) (h : v = 0 ∨ v = 1) : Fine 1 (constT ⟨1, v, ⟨#[]⟩⟩) := by
  refine fine_leaf rfl ?_
  rcases h with rfl | rfl <;> simp [oneO, constT, tree_one.f, tree_fields.f, value_Good.f, nil_list]
theorem fine_text {s : ByteArray} (h : s.size ≤ 200) : Fine 1 (constT ⟨3, 0, s⟩) := by
  refine fine_leaf rfl ?_
  have : (s.size : Int) ≤ 200 := by omega
  simp [oneO, constT, tree_one.f, tree_fields.f, value_Good.f, nil_list, h, this]
theorem cellF_good {toks : List Tok} {n : Nat} {r c : Int} (h : cellF toks n = some (r, c)) : addr_Good.f r c = some true := by
  unfold cellF at h
  cases e : toks[n]? with
  | none => rw [e] at h; cases h
  | some tk =>
    rw [e] at h
    dsimp only at h
    by_cases h3 : tk.f0 = 3
    · rw [if_pos h3] at h
      by_cases ho : opensV toks n = true
      · rw [if_pos ho] at h; cases h
      · rw [if_neg ho] at h
        unfold addr_Parse.f at h
        by_cases hs : tk.f2.size ≤ 9223372036854775807
        · rw [if_pos hs] at h
          unfold parseS at h
          by_cases h6 : 6 < tk.f2.data.toList.length
          · rw [if_pos h6] at h; cases h
          · rw [if_neg h6] at h
            cases ea : ap tk.f2.data.toList 0 0 with
            | none => rw [ea] at h; cases h
            | some x =>
              obtain ⟨r2, c2⟩ := x
              rw [ea] at h
              dsimp only at h
              by_cases hc : cellB r2 c2 = true ∧ nameS r2 c2 = tk.f2.data.toList
              · rw [if_pos hc] at h
                cases h
                rw [good_eq, hc.1]
              · rw [if_neg hc] at h; cases h
        · rw [if_neg hs] at h; cases h
    · rw [if_neg h3] at h; cases h
theorem fine_cell {r c : Int} (h : addr_Good.f r c = some true) : Fine 1 (cellT r c) := by
  refine fine_leaf rfl ?_
  simp [oneO, cellT, tree_one.f, tree_fields.f, value_Same.f, nil_list, h]
theorem fine_range {r c x y u1 u2 u3 u4 : Int} {b : Bool} (h1 : addr_Good.f r c = some true) (h2 : addr_Good.f x y = some true) (hm : addr_Made.f r c x y = some (u1, u2, u3, u4, b)) : Fine 1 (rangeT u1 u2 u3 u4) := by
  refine fine_leaf rfl ?_
  have hf : addr_Fine.f u1 u2 u3 u4 = some true := by
    unfold addr_Made.f at hm
    rw [h1, h2] at hm
    simp only [Option.bind_some, if_true, Option.some.injEq, Prod.mk.injEq] at hm
    obtain ⟨rfl, rfl, rfl, rfl, -⟩ := hm
    rw [good_eq] at h1 h2
    have g1 := (cellB_iff r c).1 (Option.some.inj h1)
    have g2 := (cellB_iff x y).1 (Option.some.inj h2)
    have k1 : cellB (mn r x) (mn c y) = true := by rw [cellB_iff]; unfold mn; repeat' split
                                                   all_goals omega
    have k2 : cellB (mx r x) (mx c y) = true := by rw [cellB_iff]; unfold mx; repeat' split
                                                   all_goals omega
    have k3 : mn r x ≤ mx r x := by unfold mn mx; repeat' split
                                    all_goals omega
    have k4 : mn c y ≤ mx c y := by unfold mn mx; repeat' split
                                    all_goals omega
    unfold addr_Fine.f
    rw [good_eq, good_eq, k1, k2]
    simp [k3, k4]
  simp [oneO, rangeT, tree_one.f, tree_fields.f, value_Same.f, nil_list, hf]
theorem fine_neg {d : Nat} {a : TN} (h : Fine d a) (hd : d + 1 ≤ 1000) : Fine (d + 1) (negT a) := by
  have hL := fineL_snoc fineL_nil h
  rw [Nat.zero_add] at hL
  refine fine_node hL ?_ (by omega) (by show 1 ≤ 1000; decide)
  simp [oneO, negT, tree_one.f, tree_fields.f, value_Same.f, nil_list]
theorem fine_two {c d : Nat} {op : ByteArray} {a b : TN} (ha : Fine c a) (hb : Fine d b) (hcd : c + d + 1 ≤ 1000) (ho : inL opsL op = true) : Fine (c + d + 1) (twoT op a b) := by
  have hL := fineL_snoc (fineL_snoc fineL_nil ha) hb
  rw [Nat.zero_add] at hL
  refine fine_node hL ?_ (by omega) (by show 2 ≤ 1000; decide)
  have hc := contains_eq opsL op (by decide)
  rw [ho] at hc
  simp [oneO, twoT, tree_one.f, tree_fields.f, value_Same.f, nil_list, hc]
theorem op_loop (s : ByteArray) (hs : NameB s) (h8 : s.size ≤ 8) : ∀ (j i k : Nat), i + j = s.size → j < k → tree_op.l0 k s (s.size : Int) (i : Int) = some true := by
  intro j
  induction j with
  | zero =>
    intro i k hi hk
    obtain ⟨k, rfl⟩ : ∃ e, k = e + 1 := ⟨k - 1, by omega⟩
    have hne : ¬ s.toList = ([] : List UInt8) := by
      rw [ByteArray.toList_eq]; intro e
      have h1 : s.data.toList.length = s.size := Array.length_toList
      rw [e] at h1
      have := hs.1
      simp at h1; omega
    rw [tree_op.l0, if_neg (by omega), if_neg hne, decide_eq_true (by omega)]
  | succ j ih =>
    intro i k hi hk
    obtain ⟨k, rfl⟩ : ∃ e, k = e + 1 := ⟨k - 1, by omega⟩
    have hw : wrap64 ((i : Int) + 1) = ((i + 1 : Nat) : Int) := by rw [M.wrap64_id (by unfold I64; omega)]; omega
    have hI := ih (i + 1) k (by omega) (by omega)
    have hb := hs.2 i (by omega)
    rw [tree_op.l0, if_pos (by omega), if_pos (by omega), if_pos (by omega), bt_bu, hw, hI]
    rcases hb with hb | hb
    · rw [if_pos (by omega), if_pos (by omega)]
    · rw [if_neg (show ¬ ((bu s i).toNat : Int) ≥ 65 by omega), if_neg (show ¬ (i : Int) = 0 by omega), if_neg (show ¬ ((bu s i).toNat : Int) < 48 by omega), if_neg (show ¬ ((bu s i).toNat : Int) > 57 by omega)]
theorem fine_call {c : Nat} {s : ByteArray} {l : List TN} (h : FineL c l) (hs : NameB s) (h8 : s.size ≤ 8) (hl : l.length ≤ 10) (hc : c ≤ 1000) : Fine (c + 1) (callT s l) := by
  refine fine_node (t := callT s l) h ?_ hc (by show l.length ≤ 1000; omega)
  have ho : tree_op.f 2000 s = some true := op_loop s hs h8 s.size 0 2000 (by omega) (by omega)
  have hl' : (l.length : Int) ≤ 10 := by omega
  have hl0 : (0 : Int) ≤ (l.length : Int) := by omega
  simp [oneO, callT, tree_one.f, tree_fields.f, value_Same.f, nil_list, ho, hl', hl0, hl]
end Go.Proofs.YtnomfbmebafolaaGreatDoor.P

namespace Go.Proofs.YtnomfbmebafolaaGreatDoor.P
open Go.RowKit Go.Proofs.YtnomfbmebafolaaGreatDoorW.PrintWords Go.Proofs.YtnomfbmebafolaaGreatDoorW.PrintLast Go.Proofs.YtnomfbmebafolaaGreatDoorW.PrintMore
set_option linter.unusedVariables false
set_option linter.unusedSimpArgs false
def GoodP (toks : List Tok) (F : PF) : Prop := ∀ n, n ≤ toks.length → ∀ t m, F n = (.ok t, m) → ∃ c, 1 ≤ c ∧ n + c ≤ m ∧ Fine c t
theorem sign_in {toks : List Tok} {n m : Nat} {l : List ByteArray} {s : ByteArray} (h : signV toks n l = (s, true, m)) : inL l s = true := by
  unfold signV at h
  cases e : toks[n]? with
  | none => rw [e] at h; cases h
  | some t =>
    rw [e] at h
    dsimp only at h
    by_cases h4 : t.f0 = 4
    · rw [if_pos h4] at h
      by_cases h5 : inL l t.f2 = true
      · rw [if_pos h5] at h; cases h; exact h5
      · rw [if_neg h5] at h; cases h
    · rw [if_neg h4] at h; cases h
theorem good_row {toks : List Tok} (hlen : toks.length ≤ 1000) {F : PF} (hF : Fit toks F) (h : GoodP toks F) (l : List ByteArray) (hl : ∀ s, inL l s = true → inL opsL s = true) (n0 : Nat) : ∀ (k : Nat) (a : TN) (n c : Nat), n ≤ toks.length → 1 ≤ c → n0 + c ≤ n → Fine c a → ∀ t m, rowF toks F l k a n = (.ok t, m) → ∃ c, 1 ≤ c ∧ n0 + c ≤ m ∧ Fine c t := by
  intro k
  induction k with
  | zero => intro a n c _ _ _ _ t m e; rw [rowF] at e; cases e
  | succ k ih =>
    intro a n c hn hc hnc ha t m e
    rw [rowF] at e
    rcases sign_cases toks n l with e1 | ⟨s, e1, hlt⟩
    · rw [e1] at e
      dsimp only at e
      cases e; exact ⟨c, hc, hnc, ha⟩
    · rw [e1] at e
      dsimp only at e
      cases e2 : F (n + 1) with
      | mk r m2 =>
        have hle := hF.le (by omega) e2
        rw [e2] at e
        cases r with
        | bad p c => dsimp only at e; cases e
        | ok b =>
          dsimp only at e
          obtain ⟨d, hd, hnd, hb⟩ := h _ (by omega) _ _ e2
          exact ih _ _ (c + d + 1) hle.2 (by omega) (by omega) (fine_two ha hb (by omega) (hl _ (sign_in e1))) _ _ e
theorem good_rows {toks : List Tok} (hlen : toks.length ≤ 1000) {F : PF} (hF : Fit toks F) (h : GoodP toks F) (l : List ByteArray) (hl : ∀ s, inL l s = true → inL opsL s = true) : GoodP toks (rowsF toks F l) := by
  intro n hn t m e
  unfold rowsF at e
  cases e2 : F n with
  | mk r m2 =>
    have hle := hF.le hn e2
    rw [e2] at e
    cases r with
    | bad p c => dsimp only at e; cases e
    | ok b =>
      dsimp only at e
      obtain ⟨d, hd, hnd, hb⟩ := h _ hn _ _ e2
      exact good_row hlen hF h l hl n _ b m2 d hle.2 hd hnd hb _ _ e
theorem good_form {toks : List Tok} (hlen : toks.length ≤ 1000) {F : PF} (hF : Fit toks F) (h : GoodP toks F) : GoodP toks (formF toks F) := by
  intro n hn t m e
  unfold formF at e
  cases e2 : F n with
  | mk r m2 =>
    have hle := hF.le hn e2
    rw [e2] at e
    cases r with
    | bad p c => dsimp only at e; cases e
    | ok b =>
      dsimp only at e
      obtain ⟨c, hc, hnc, ha⟩ := h _ hn _ _ e2
      rcases sign_cases toks m2 sixL with e1 | ⟨s, e1, hlt⟩
      · rw [e1] at e
        dsimp only at e
        cases e; exact ⟨c, hc, hnc, ha⟩
      · rw [e1] at e
        dsimp only at e
        cases e3 : F (m2 + 1) with
        | mk r3 m3 =>
          have hle3 := hF.le (by omega) e3
          rw [e3] at e
          cases r3 with
          | bad p c => dsimp only at e; cases e
          | ok b3 =>
            dsimp only at e
            obtain ⟨d, hd, hnd, hb⟩ := h _ (by omega) _ _ e3
            cases e
            exact ⟨c + d + 1, by omega, by omega, fine_two ha hb (by omega) (six_ops _ (sign_in e1))⟩
theorem good_pow {toks : List Tok} (hlen : toks.length ≤ 1000) {F F2 : PF} (hF : Fit toks F) (hF2 : Fit toks F2) (h : GoodP toks F) (h2 : GoodP toks F2) : GoodP toks (powF toks F F2) := by
  intro n hn t m e
  unfold powF at e
  cases e2 : F n with
  | mk r m2 =>
    have hle := hF.le hn e2
    rw [e2] at e
    cases r with
    | bad p c => dsimp only at e; cases e
    | ok b =>
      dsimp only at e
      obtain ⟨c, hc, hnc, ha⟩ := h _ hn _ _ e2
      rcases sign_cases toks m2 [⟨#[94]⟩] with e1 | ⟨s, e1, hlt⟩
      · rw [e1] at e
        dsimp only at e
        cases e; exact ⟨c, hc, hnc, ha⟩
      · rw [e1] at e
        dsimp only at e
        cases e3 : F2 (m2 + 1) with
        | mk r3 m3 =>
          have hle3 := hF2.le (by omega) e3
          rw [e3] at e
          cases r3 with
          | bad p c => dsimp only at e; cases e
          | ok b3 =>
            dsimp only at e
            obtain ⟨d, hd, hnd, hb⟩ := h2 _ (by omega) _ _ e3
            cases e
            exact ⟨c + d + 1, by omega, by omega, fine_two ha hb (by omega) (by decide +kernel)⟩
theorem good_un {toks : List Tok} (hlen : toks.length ≤ 1000) {F F2 : PF} (hF2 : Fit toks F2) (h : GoodP toks F) (h2 : GoodP toks F2) : GoodP toks (unF toks F F2) := by
  intro n hn t m e
  unfold unF at e
  rcases sign_cases toks n [⟨#[45]⟩] with e1 | ⟨s, e1, hlt⟩
  · rw [e1] at e
    dsimp only at e
    exact h n hn t m e
  · rw [e1] at e
    dsimp only at e
    cases e3 : F2 (n + 1) with
    | mk r3 m3 =>
      have hle3 := hF2.le (by omega) e3
      rw [e3] at e
      cases r3 with
      | bad p c => dsimp only at e; cases e
      | ok b3 =>
        dsimp only at e
        obtain ⟨d, hd, hnd, hb⟩ := h2 _ (by omega) _ _ e3
        cases e
        exact ⟨d + 1, by omega, by omega, fine_neg hb (by omega)⟩
theorem good_within {toks : List Tok} {en : Int} {F : PF} (hF : Fit toks F) (h : GoodP toks F) : GoodP toks (withinF toks en F) := by
  intro n hn t m e
  unfold withinF at e
  cases e2 : F n with
  | mk r m2 =>
    have hle := hF.le hn e2
    rw [e2] at e
    cases r with
    | bad p c => dsimp only at e; cases e
    | ok b =>
      dsimp only at e
      obtain ⟨c, hc, hnc, ha⟩ := h _ hn _ _ e2
      rcases sign_cases toks m2 [⟨#[41]⟩] with e1 | ⟨s, e1, hlt⟩
      · rw [e1] at e
        dsimp only at e
        unfold failF at e; cases e
      · rw [e1] at e
        dsimp only at e
        cases e; exact ⟨c, hc, by omega, ha⟩
theorem good_args {toks : List Tok} {en : Int} (hlen : toks.length ≤ 1000) {F : PF} (hF : Fit toks F) (h : GoodP toks F) (s : ByteArray) (hs : NameB s) (hs8 : s.size ≤ 8) (n0 : Nat) : ∀ (k : Nat) (l : List TN) (n c : Nat), l.length + k = 10 → n ≤ toks.length → n0 + 1 + c ≤ n → FineL c l → ∀ t m, argsF toks en F s k l n = (.ok t, m) → ∃ c, 1 ≤ c ∧ n0 + c ≤ m ∧ Fine c t := by
  intro k
  induction k with
  | zero => intro l n c _ hn _ _ t m e; rw [argsF] at e; unfold failF at e; cases e
  | succ k ih =>
    intro l n c hl hn hnc hL t m e
    rw [argsF] at e
    cases e2 : F n with
    | mk r m2 =>
      have hle := hF.le hn e2
      rw [e2] at e
      cases r with
      | bad p c => dsimp only at e; cases e
      | ok b =>
        dsimp only at e
        obtain ⟨d, hd, hnd, hb⟩ := h _ hn _ _ e2
        have hL2 := fineL_snoc hL hb
        rcases sign_cases toks m2 [⟨#[44]⟩] with e1 | ⟨s1, e1, hlt⟩
        · rw [e1] at e
          dsimp only at e
          rcases sign_cases toks m2 [⟨#[41]⟩] with e3 | ⟨s3, e3, hlt⟩
          · rw [e3] at e
            dsimp only at e
            unfold failF at e; cases e
          · rw [e3] at e
            dsimp only at e
            cases e
            exact ⟨c + d + 1, by omega, by omega, fine_call hL2 hs hs8 (by rw [List.length_append, List.length_singleton]; omega) (by omega)⟩
        · rw [e1] at e
          dsimp only at e
          exact ih _ _ (c + d) (by rw [List.length_append, List.length_singleton]; omega) (by omega) (by omega) hL2 _ _ e
theorem good_call {toks : List Tok} {en : Int} (hlen : toks.length ≤ 1000) {F : PF} (hF : Fit toks F) (h : GoodP toks F) (s : ByteArray) (hs : NameB s) (n : Nat) (hn : n + 2 ≤ toks.length) (t : TN) (m : Nat) (e : callF toks en F s n = (.ok t, m)) : ∃ c, 1 ≤ c ∧ n + c ≤ m ∧ Fine c t := by
  unfold callF at e
  by_cases h8 : 8 < s.size
  · rw [if_pos h8] at e; unfold failF at e; cases e
  · rw [if_neg h8] at e
    rcases sign_cases toks (n + 2) [⟨#[41]⟩] with e1 | ⟨s1, e1, hlt⟩
    · rw [e1] at e
      dsimp only at e
      exact good_args hlen hF h s hs (by omega) n 10 [] (n + 2) 0 rfl hn (by omega) fineL_nil t m e
    · rw [e1] at e
      dsimp only at e
      cases e
      exact ⟨1, by omega, by omega, fine_call fineL_nil hs (by omega) (by decide) (by omega)⟩
theorem good_name {toks : List Tok} {en : Int} (hlen : toks.length ≤ 1000) {F : PF} (hF : Fit toks F) (h : GoodP toks F) (s : ByteArray) (hs : NameB s) (n : Nat) (hn : n < toks.length) (t : TN) (m : Nat) (e : nameF toks en F s n = (.ok t, m)) : ∃ c, 1 ≤ c ∧ n + c ≤ m ∧ Fine c t := by
  unfold nameF at e
  by_cases h0 : opensV toks n = true
  · rw [if_pos h0] at e
    exact good_call hlen hF h s hs n (by have := opens_lt h0; omega) t m e
  · rw [if_neg h0] at e
    by_cases h1 : (s.toList == ([84, 82, 85, 69] : List UInt8)) = true
    · rw [if_pos h1] at e; cases e; exact ⟨1, by omega, by omega, fine_bool 1 (by omega)⟩
    · rw [if_neg h1] at e
      by_cases h2 : (s.toList == ([70, 65, 76, 83, 69] : List UInt8)) = true
      · rw [if_pos h2] at e; cases e; exact ⟨1, by omega, by omega, fine_bool 0 (by omega)⟩
      · rw [if_neg h2] at e
        cases ea : cellF toks n with
        | none => rw [ea] at e; dsimp only at e; unfold failF at e; cases e
        | some x =>
          rw [ea] at e
          obtain ⟨r, c⟩ := x
          dsimp only at e
          rcases sign_cases toks (n + 1) [⟨#[58]⟩] with e1 | ⟨s1, e1, hlt⟩
          · rw [e1] at e
            dsimp only at e
            cases e; exact ⟨1, by omega, by omega, fine_cell (cellF_good ea)⟩
          · rw [e1] at e
            dsimp only at e
            cases eb : cellF toks (n + 1 + 1) with
            | none => rw [eb] at e; dsimp only at e; unfold failF at e; cases e
            | some y =>
              rw [eb] at e
              obtain ⟨x, y⟩ := y
              dsimp only at e
              cases em : addr_Made.f r c x y with
              | none => rw [em] at e; dsimp only at e; cases e
              | some z =>
                rw [em] at e
                obtain ⟨z1, z2, z3, z4, z5⟩ := z
                dsimp only at e
                cases e; exact ⟨1, by omega, by omega, fine_range (cellF_good ea) (cellF_good eb) em⟩
theorem good_part {toks : List Tok} {en : Int} {L : Nat} (hT : ∀ t ∈ toks, TokOk L t) (hlen : toks.length ≤ 1000) {F : PF} (hF : Fit toks F) (h : GoodP toks F) : GoodP toks (partF toks en F) := by
  intro n hn t m e
  unfold partF at e
  by_cases hlt : n < toks.length
  · rw [List.getElem?_eq_getElem hlt] at e
    have hk := hT _ (List.getElem_mem hlt)
    dsimp only at e
    by_cases h1 : (toks[n]).f0 = 1
    · rw [if_pos h1] at e; cases e; exact ⟨1, by omega, by omega, fine_int (hk.num h1)⟩
    · rw [if_neg h1] at e
      by_cases h2 : (toks[n]).f0 = 2
      · rw [if_pos h2] at e
        by_cases hs : (toks[n]).f2.size ≤ 200
        · rw [if_pos hs] at e; cases e; exact ⟨1, by omega, by omega, fine_text hs⟩
        · rw [if_neg hs] at e; unfold failF at e; cases e
      · rw [if_neg h2] at e
        by_cases h3 : (toks[n]).f0 = 3
        · rw [if_pos h3] at e
          exact good_name hlen hF h _ (hk.name h3) n hlt t m e
        · rw [if_neg h3] at e
          by_cases h4 : (toks[n]).f0 = 4
          · rw [if_pos h4] at e
            rcases sign_cases toks n [⟨#[40]⟩] with e1 | ⟨s, e1, hlt⟩
            · rw [e1] at e; dsimp only at e; unfold failF at e; cases e
            · rw [e1] at e
              dsimp only at e
              obtain ⟨c, hc, hnc, hf⟩ := good_within hF h (n + 1) (by omega) t m e
              exact ⟨c, hc, by omega, hf⟩
          · rw [if_neg h4] at e; unfold failF at e; cases e
  · rw [List.getElem?_eq_none (by omega)] at e
    dsimp only at e
    unfold failF at e; cases e
theorem good_lv {toks : List Tok} {L : Nat} (hT : ∀ t ∈ toks, TokOk L t) (hlen : toks.length ≤ 1000) (en : Int) : ∀ d, GoodP toks (lv toks en d).form ∧ GoodP toks (lv toks en d).pow ∧ GoodP toks (lv toks en d).un := by
  intro d
  induction d with
  | zero =>
    have : GoodP toks (fun n => (.bad 0 14, n)) := fun n hn t m e => by cases e
    exact ⟨this, this, this⟩
  | succ d ih =>
    obtain ⟨h1, h2, h3⟩ := ih
    obtain ⟨f1, f2, f3⟩ := fit_lv toks en d
    have fu := fit_un (fit_part (en := en) f1) f3
    have fp := fit_pow fu f2
    have gu := good_un hlen f3 (good_part (en := en) hT hlen f1 h1) h3
    have gp := good_pow hlen fu f2 gu h2
    exact ⟨good_form hlen (fit_rows (fit_rows fp _) _) (good_rows hlen (fit_rows fp _) (good_rows hlen fp gp prodL prod_ops) sumL sum_ops), gp, gu⟩
theorem place_ge {toks : List Tok} {L : Nat} (hT : ∀ t ∈ toks, TokOk L t) {en : Int} (he : 0 ≤ en) (n : Nat) : 0 ≤ placeV toks en n := by
  unfold placeV
  cases e : toks[n]? with
  | none => exact he
  | some t => exact (hT t (List.mem_of_getElem? e)).at_
end Go.Proofs.YtnomfbmebafolaaGreatDoor.P


namespace Go.Proofs.YtnomfbmebafolaaGreatDoor.P
open Go.RowKit Go.Proofs.YtnomfbmebafolaaGreatDoorW.PrintWords Go.Proofs.YtnomfbmebafolaaGreatDoorW.PrintLast Go.Proofs.YtnomfbmebafolaaGreatDoorW.PrintMore
open M (I64)
set_option linter.unusedVariables false
set_option linter.unusedSimpArgs false
def BadP (toks : List Tok) (F : PF) : Prop := ∀ n, n ≤ toks.length → ∀ p c m, F n = (.bad p c, m) → 0 ≤ p ∧ c ≠ 0
section
variable {toks : List Tok} {L : Nat} (hT : ∀ t ∈ toks, TokOk L t) {en : Int} (he : 0 ≤ en)
include hT he
theorem bad_fail {n m : Nat} {p c : Int} (e : failF toks en n = (.bad p c, m)) : 0 ≤ p ∧ c ≠ 0 := by
  unfold failF at e; cases e; exact ⟨place_ge hT he n, by decide⟩
theorem bad_within {F : PF} (hF : Fit toks F) (h : BadP toks F) : BadP toks (withinF toks en F) := by
  intro n hn p c m e
  unfold withinF at e
  cases e2 : F n with
  | mk r m2 =>
    have hle := hF.le hn e2
    rw [e2] at e
    cases r with
    | bad p c => dsimp only at e; cases e; exact h n hn _ _ _ e2
    | ok b =>
      dsimp only at e
      rcases sign_cases toks m2 [⟨#[41]⟩] with e1 | ⟨s, e1, hlt⟩
      · rw [e1] at e; exact bad_fail hT he e
      · rw [e1] at e; cases e
theorem bad_args {F : PF} (hF : Fit toks F) (h : BadP toks F) (s : ByteArray) : ∀ (k : Nat) (l : List TN) (n : Nat), n ≤ toks.length → ∀ p c m, argsF toks en F s k l n = (.bad p c, m) → 0 ≤ p ∧ c ≠ 0 := by
  intro k
  induction k with
  | zero => intro l n hn p c m e; rw [argsF] at e; exact bad_fail hT he e
  | succ k ih =>
    intro l n hn p c m e
    rw [argsF] at e
    cases e2 : F n with
    | mk r m2 =>
      have hle := hF.le hn e2
      rw [e2] at e
      cases r with
      | bad p c => dsimp only at e; cases e; exact h n hn _ _ _ e2
      | ok b =>
        dsimp only at e
        rcases sign_cases toks m2 [⟨#[44]⟩] with e1 | ⟨s1, e1, hlt⟩
        · rw [e1] at e
          dsimp only at e
          rcases sign_cases toks m2 [⟨#[41]⟩] with e3 | ⟨s3, e3, hlt⟩
          · rw [e3] at e; exact bad_fail hT he e
          · rw [e3] at e; cases e
        · rw [e1] at e
          dsimp only at e
          exact ih _ _ (by omega) _ _ _ e
theorem bad_name {F : PF} (hF : Fit toks F) (h : BadP toks F) (s : ByteArray) (n : Nat) (hn : n < toks.length) (p c : Int) (m : Nat) (e : nameF toks en F s n = (.bad p c, m)) : 0 ≤ p ∧ c ≠ 0 := by
  unfold nameF at e
  by_cases h0 : opensV toks n = true
  · rw [if_pos h0] at e
    have hlt := opens_lt h0
    unfold callF at e
    by_cases h8 : 8 < s.size
    · rw [if_pos h8] at e; exact bad_fail hT he e
    · rw [if_neg h8] at e
      rcases sign_cases toks (n + 2) [⟨#[41]⟩] with e1 | ⟨s1, e1, hlt⟩
      · rw [e1] at e
        exact bad_args hT he hF h s 10 [] (n + 2) (by omega) p c m e
      · rw [e1] at e; cases e
  · rw [if_neg h0] at e
    by_cases h1 : (s.toList == ([84, 82, 85, 69] : List UInt8)) = true
    · rw [if_pos h1] at e; cases e
    · rw [if_neg h1] at e
      by_cases h2 : (s.toList == ([70, 65, 76, 83, 69] : List UInt8)) = true
      · rw [if_pos h2] at e; cases e
      · rw [if_neg h2] at e
        cases ea : cellF toks n with
        | none => rw [ea] at e; exact bad_fail hT he e
        | some x =>
          rw [ea] at e
          obtain ⟨r, c1⟩ := x
          dsimp only at e
          rcases sign_cases toks (n + 1) [⟨#[58]⟩] with e1 | ⟨s1, e1, hlt⟩
          · rw [e1] at e; cases e
          · rw [e1] at e
            dsimp only at e
            cases eb : cellF toks (n + 1 + 1) with
            | none => rw [eb] at e; exact bad_fail hT he e
            | some y =>
              rw [eb] at e
              obtain ⟨x, y⟩ := y
              dsimp only at e
              have hm : ∃ z, addr_Made.f r c1 x y = some z := by
                unfold addr_Made.f
                rw [cellF_good ea, cellF_good eb]
                exact ⟨_, rfl⟩
              obtain ⟨⟨z1, z2, z3, z4, z5⟩, hm⟩ := hm
              rw [hm] at e; cases e
theorem bad_part {F : PF} (hF : Fit toks F) (h : BadP toks F) : BadP toks (partF toks en F) := by
  intro n hn p c m e
  unfold partF at e
  by_cases hlt : n < toks.length
  · rw [List.getElem?_eq_getElem hlt] at e
    dsimp only at e
    by_cases h1 : (toks[n]).f0 = 1
    · rw [if_pos h1] at e; cases e
    · rw [if_neg h1] at e
      by_cases h2 : (toks[n]).f0 = 2
      · rw [if_pos h2] at e
        by_cases hs : (toks[n]).f2.size ≤ 200
        · rw [if_pos hs] at e; cases e
        · rw [if_neg hs] at e; exact bad_fail hT he e
      · rw [if_neg h2] at e
        by_cases h3 : (toks[n]).f0 = 3
        · rw [if_pos h3] at e
          exact bad_name hT he hF h _ n hlt p c m e
        · rw [if_neg h3] at e
          by_cases h4 : (toks[n]).f0 = 4
          · rw [if_pos h4] at e
            rcases sign_cases toks n [⟨#[40]⟩] with e1 | ⟨s, e1, hlt⟩
            · rw [e1] at e; exact bad_fail hT he e
            · rw [e1] at e
              exact bad_within hT he hF h (n + 1) (by omega) p c m e
          · rw [if_neg h4] at e; exact bad_fail hT he e
  · rw [List.getElem?_eq_none (by omega)] at e
    exact bad_fail hT he e
end
theorem bad_row {toks : List Tok} {F : PF} (hF : Fit toks F) (h : BadP toks F) (l : List ByteArray) : ∀ (k : Nat) (a : TN) (n : Nat), n ≤ toks.length → toks.length < n + k → ∀ p c m, rowF toks F l k a n = (.bad p c, m) → 0 ≤ p ∧ c ≠ 0 := by
  intro k
  induction k with
  | zero => intro a n hn hk p c m e; omega
  | succ k ih =>
    intro a n hn hk p c m e
    rw [rowF] at e
    rcases sign_cases toks n l with e1 | ⟨s, e1, hlt⟩
    · rw [e1] at e; cases e
    · rw [e1] at e
      dsimp only at e
      cases e2 : F (n + 1) with
      | mk r m2 =>
        have hle := hF.le (by omega) e2
        rw [e2] at e
        cases r with
        | bad p c => dsimp only at e; cases e; exact h _ (by omega) _ _ _ e2
        | ok b => dsimp only at e; exact ih _ _ hle.2 (by omega) _ _ _ e
theorem bad_rows {toks : List Tok} {F : PF} (hF : Fit toks F) (h : BadP toks F) (l : List ByteArray) : BadP toks (rowsF toks F l) := by
  intro n hn p c m e
  unfold rowsF at e
  cases e2 : F n with
  | mk r m2 =>
    have hle := hF.le hn e2
    rw [e2] at e
    cases r with
    | bad p c => dsimp only at e; cases e; exact h _ hn _ _ _ e2
    | ok b => dsimp only at e; exact bad_row hF h l _ _ _ hle.2 (by omega) _ _ _ e
theorem bad_form {toks : List Tok} {F : PF} (hF : Fit toks F) (h : BadP toks F) : BadP toks (formF toks F) := by
  intro n hn p c m e
  unfold formF at e
  cases e2 : F n with
  | mk r m2 =>
    have hle := hF.le hn e2
    rw [e2] at e
    cases r with
    | bad p c => dsimp only at e; cases e; exact h _ hn _ _ _ e2
    | ok b =>
      dsimp only at e
      rcases sign_cases toks m2 sixL with e1 | ⟨s, e1, hlt⟩
      · rw [e1] at e; cases e
      · rw [e1] at e
        dsimp only at e
        cases e3 : F (m2 + 1) with
        | mk r3 m3 =>
          rw [e3] at e
          cases r3 with
          | bad p c => dsimp only at e; cases e; exact h _ (by omega) _ _ _ e3
          | ok b3 => cases e
theorem bad_pow {toks : List Tok} {F F2 : PF} (hF : Fit toks F) (h : BadP toks F) (h2 : BadP toks F2) : BadP toks (powF toks F F2) := by
  intro n hn p c m e
  unfold powF at e
  cases e2 : F n with
  | mk r m2 =>
    have hle := hF.le hn e2
    rw [e2] at e
    cases r with
    | bad p c => dsimp only at e; cases e; exact h _ hn _ _ _ e2
    | ok b =>
      dsimp only at e
      rcases sign_cases toks m2 [⟨#[94]⟩] with e1 | ⟨s, e1, hlt⟩
      · rw [e1] at e; cases e
      · rw [e1] at e
        dsimp only at e
        cases e3 : F2 (m2 + 1) with
        | mk r3 m3 =>
          rw [e3] at e
          cases r3 with
          | bad p c => dsimp only at e; cases e; exact h2 _ (by omega) _ _ _ e3
          | ok b3 => cases e
theorem bad_un {toks : List Tok} {F F2 : PF} (h : BadP toks F) (h2 : BadP toks F2) : BadP toks (unF toks F F2) := by
  intro n hn p c m e
  unfold unF at e
  rcases sign_cases toks n [⟨#[45]⟩] with e1 | ⟨s, e1, hlt⟩
  · rw [e1] at e; exact h n hn _ _ _ e
  · rw [e1] at e
    dsimp only at e
    cases e3 : F2 (n + 1) with
    | mk r3 m3 =>
      rw [e3] at e
      cases r3 with
      | bad p c => dsimp only at e; cases e; exact h2 _ (by omega) _ _ _ e3
      | ok b3 => cases e
theorem bad_lv {toks : List Tok} {L : Nat} (hT : ∀ t ∈ toks, TokOk L t) {en : Int} (he : 0 ≤ en) : ∀ d, BadP toks (lv toks en d).form ∧ BadP toks (lv toks en d).pow ∧ BadP toks (lv toks en d).un := by
  intro d
  induction d with
  | zero =>
    have : BadP toks (fun n => (.bad 0 14, n)) := fun n hn p c m e => by cases e; exact ⟨by decide, by decide⟩
    exact ⟨this, this, this⟩
  | succ d ih =>
    obtain ⟨h1, h2, h3⟩ := ih
    obtain ⟨f1, f2, f3⟩ := fit_lv toks en d
    have fu := fit_un (fit_part (en := en) f1) f3
    have fp := fit_pow fu f2
    have gu := bad_un (bad_part hT he f1 h1) h3
    have gp := bad_pow fu gu h2
    exact ⟨bad_form (fit_rows (fit_rows fp _) _) (bad_rows (fit_rows fp _) (bad_rows fp gp prodL) sumL), gp, gu⟩
theorem kd_num : ∀ c : Fin 256, (kindOf (c.val : Int) == 2) = (decide (48 ≤ c.val) && decide (c.val ≤ 57)) := by decide +kernel
theorem kd_let : ∀ c : Fin 256, (kindOf (c.val : Int) == 3) = ((decide (65 ≤ c.val) && decide (c.val ≤ 90)) || (decide (97 ≤ c.val) && decide (c.val ≤ 122))) := by decide +kernel
theorem num_byte (s : ByteArray) (i : Nat) (h : kindOf (bt s (i : Int)) = 2) : 48 ≤ (bu s i).toNat ∧ (bu s i).toNat ≤ 57 := by
  have := kd_num ⟨(bu s i).toNat, (bu s i).toNat_lt⟩
  rw [bt_bu] at h
  simp only [h, beq_self_eq_true, Bool.true_eq, Bool.and_eq_true, decide_eq_true_eq] at this
  exact this
theorem let_byte (s : ByteArray) (i : Nat) (h : kindOf (bt s (i : Int)) = 3) : (65 ≤ (bu s i).toNat ∧ (bu s i).toNat ≤ 90) ∨ (97 ≤ (bu s i).toNat ∧ (bu s i).toNat ≤ 122) := by
  have := kd_let ⟨(bu s i).toNat, (bu s i).toNat_lt⟩
  rw [bt_bu] at h
  simp only [h, beq_self_eq_true, Bool.true_eq, Bool.or_eq_true, Bool.and_eq_true, decide_eq_true_eq] at this
  exact this
theorem runN_all (p : Int → Bool) (s : ByteArray) : ∀ (d i j : Nat), i ≤ j → j < runN p s d i → p (kindOf (bt s (j : Int))) = true
  | 0, i, j, h, h2 => by rw [runN] at h2; omega
  | d + 1, i, j, h, h2 => by
    rw [runN] at h2
    by_cases hlt : i < s.size
    · rw [if_pos hlt] at h2
      by_cases hp : p (kindOf (bt s (i : Int))) = true
      · rw [if_pos hp] at h2
        by_cases hij : i = j
        · subst hij; exact hp
        · exact runN_all p s d (i + 1) j (by omega) h2
      · rw [if_neg hp] at h2; omega
    · rw [if_neg hlt] at h2; omega
theorem textF_size (s : ByteArray) : ∀ (d i : Nat) (out : List UInt8), out.length ≤ i → (textF s d i out).1.size ≤ s.size
  | 0, i, out, h => by rw [textF]; exact Nat.zero_le _
  | d + 1, i, out, h => by
    unfold textF
    split
    · split
      · split
        · show out.length ≤ s.size; omega
        · exact textF_size s d (i + 2) _ (by rw [List.length_append, List.length_singleton]; omega)
      · exact textF_size s d (i + 1) _ (by rw [List.length_append, List.length_singleton]; omega)
    · exact Nat.zero_le _
theorem pI_ge {s : ByteArray} {c : UInt8} {r : List UInt8} (h : s.data.toList = c :: r) (hc : c.toNat ≠ 45) : 0 ≤ (pI s).1 := by
  unfold pI
  rw [h]
  unfold Lib.parseIntB
  dsimp only
  cases hq : Lib.parseUintB 64 (if c.toNat = 43 ∨ c.toNat = 45 then r else c :: r)
  · rename_i u
    dsimp only
    by_cases h1 : ¬ c.toNat = 45 ∧ 2 ^ (64 - 1) ≤ u
    · rw [if_pos h1]; exact Int.le_refl _
    · rw [if_neg h1, if_neg (fun h => hc h.1), if_neg hc]; exact Int.natCast_nonneg u
  · exact Int.le_refl _
  · exact Int.le_refl _
end Go.Proofs.YtnomfbmebafolaaGreatDoor.P

namespace Go.Proofs.YtnomfbmebafolaaGreatDoor.P
open Go.RowKit Go.Proofs.YtnomfbmebafolaaGreatDoorW.PrintWords Go.Proofs.YtnomfbmebafolaaGreatDoorW.PrintLast Go.Proofs.YtnomfbmebafolaaGreatDoorW.PrintMore
open M (I64)
set_option linter.unusedVariables false
set_option linter.unusedSimpArgs false
theorem xt_len (s : ByteArray) : s.data.toList.length = s.size := Array.length_toList
theorem bu_part (s : ByteArray) (m i : Nat) (h : i < m) : bu (s.extract 0 m) i = bu s i := by
  unfold bu
  rw [cp_rest, List.drop_zero, List.getD_eq_getElem?_getD, List.getD_eq_getElem?_getD, List.getElem?_take_of_lt (by omega)]
theorem bu_up (s : ByteArray) (i : Nat) (h : i < s.size) : bu (upS s) i = upC (bu s i) := by
  have hl := xt_len s
  unfold bu upS upL
  rw [List.getD_eq_getElem?_getD, List.getD_eq_getElem?_getD]
  show ((s.data.toList.map upC)[i]?).getD 0 = _
  rw [List.getElem?_map, List.getElem?_eq_getElem (by omega)]
  rfl
theorem up_size (s : ByteArray) : (upS s).size = s.size := by
  show (s.data.toList.map upC).length = s.size
  rw [List.length_map]; exact xt_len s
theorem part_size (s : ByteArray) (m : Nat) (h : m ≤ s.size) : (s.extract 0 m).size = m := by rw [ByteArray.size_extract]; omega
theorem up_byte (c : UInt8) : (65 ≤ c.toNat ∧ c.toNat ≤ 90) ∨ (97 ≤ c.toNat ∧ c.toNat ≤ 122) → 65 ≤ (upC c).toNat ∧ (upC c).toNat ≤ 90 := by
  have : ∀ c : Fin 256, (65 ≤ c.val ∧ c.val ≤ 90) ∨ (97 ≤ c.val ∧ c.val ≤ 122) → 65 ≤ (upC (UInt8.ofNat c.val)).toNat ∧ (upC (UInt8.ofNat c.val)).toNat ≤ 90 := by decide +kernel
  have h := this ⟨c.toNat, c.toNat_lt⟩
  simpa using h
theorem up_num (c : UInt8) (h : 48 ≤ c.toNat ∧ c.toNat ≤ 57) : upC c = c := by
  unfold upC; rw [if_neg (by omega)]
theorem one_ok (s : ByteArray) (h0 : 0 < s.size) : ((oneV s).1 = 1 → 0 ≤ (oneV s).2.1) ∧ ((oneV s).1 = 3 → NameB (oneV s).2.2.1) ∧ (oneV s).2.2.1.size ≤ s.size := by
  unfold oneV
  by_cases h2 : kindOf (bt s 0) = 2
  · rw [if_pos h2]
    by_cases hp : (pI (s.extract 0 (digN s))).2 = true
    · rw [if_pos hp]
      refine ⟨fun _ => ?_, fun h => (by cases h), Nat.zero_le _⟩
      show 0 ≤ (pI (s.extract 0 (digN s))).1
      cases e : (s.extract 0 (digN s)).data.toList with
      | nil => unfold pI; rw [e]; exact Int.le_refl _
      | cons c r =>
        refine pI_ge e ?_
        have hb := num_byte s 0 h2
        rw [cp_rest, List.drop_zero] at e
        have hc : bu s 0 = c := by
          unfold bu
          cases el : s.data.toList with
          | nil => rw [el] at e; simp at e
          | cons a l =>
            rw [el] at e
            cases ed : digN s - 0 with
            | zero => rw [ed] at e; cases e
            | succ j => rw [ed, List.take_succ_cons] at e; cases e; rfl
        rw [hc] at hb; omega
    · rw [if_neg hp]; exact ⟨fun h => (by cases h), fun h => (by cases h), Nat.zero_le _⟩
  · rw [if_neg h2]
    by_cases h4 : kindOf (bt s 0) = 4
    · rw [if_pos h4]
      exact ⟨fun h => (by cases h), fun h => (by cases h), textF_size s (s.size + 1) 1 [] (Nat.zero_le _)⟩
    · rw [if_neg h4]
      by_cases h3 : kindOf (bt s 0) = 3
      · rw [if_pos h3]
        have hw : wordN s ≤ s.size := (runN_le wordP s s.size 0 (Nat.zero_le _)).1
        have hsz : (upS (s.extract 0 (wordN s))).size = wordN s := by rw [up_size, part_size s _ hw]
        refine ⟨fun h => (by cases h), fun _ => ?_, by show (upS (s.extract 0 (wordN s))).size ≤ s.size; rw [hsz]; exact hw⟩
        refine ⟨?_, fun i hi => ?_⟩
        · show 0 < (upS (s.extract 0 (wordN s))).size
          rw [hsz]
          unfold wordN
          obtain ⟨d, hd⟩ : ∃ d, s.size = d + 1 := ⟨s.size - 1, by omega⟩
          rw [hd, cp_runN, if_pos (by omega), if_pos (by rw [show ((0 : Nat) : Int) = 0 from rfl, h3]; rfl)]
          have := (runN_le wordP s d (0 + 1) (by omega)).2
          omega
        · change i < (upS (s.extract 0 (wordN s))).size at hi
          rw [hsz] at hi
          show (65 ≤ (bu (upS (s.extract 0 (wordN s))) i).toNat ∧ _) ∨ _
          rw [bu_up _ _ (by rw [part_size s _ hw]; exact hi), bu_part _ _ _ hi]
          have hk := runN_all wordP s s.size 0 i (Nat.zero_le _) hi
          unfold wordP at hk
          rw [Bool.or_eq_true, beq_iff_eq, beq_iff_eq] at hk
          rcases hk with hk | hk
          · exact .inl (up_byte _ (let_byte s i hk))
          · have hb := num_byte s i hk
            refine .inr ⟨?_, by rw [up_num _ hb]; exact hb⟩
            by_cases hi0 : i = 0
            · subst hi0; exact absurd (hk.symm.trans h3) (by decide)
            · omega
      · rw [if_neg h3]
        by_cases h5 : kindOf (bt s 0) = 5
        · rw [if_pos h5]
          refine ⟨fun h => (by cases h), fun h => (by cases h), ?_⟩
          show (s.extract 0 (signsV s)).size ≤ s.size
          rw [ByteArray.size_extract]; omega
        · rw [if_neg h5]; exact ⟨fun h => (by cases h), fun h => (by cases h), Nat.zero_le _⟩
theorem cutL_ok (L : Nat) : ∀ (d : Nat) (l : List UInt8) (n : Nat) (ts : List LTok) (p e : Int), l.length ≤ L → cutL d l n = (ts, p, e) → 0 ≤ p ∧ (e = 0 ∨ e = 12) ∧ (e = 0 → (∀ t ∈ ts, TokOk L t) ∧ ts.length ≤ l.length) := by
  intro d
  induction d with
  | zero => intro l n ts p e hl h; rw [cutL] at h; cases h; exact ⟨by decide, .inl rfl, fun _ => ⟨fun t ht => (by cases ht), Nat.zero_le _⟩⟩
  | succ d ih =>
    intro l n ts p e hl h
    cases l with
    | nil => rw [cutL_nil] at h; cases h; exact ⟨by decide, .inl rfl, fun _ => ⟨fun t ht => (by cases ht), Nat.zero_le _⟩⟩
    | cons c r =>
      have hlr : r.length + 1 ≤ L := by rw [List.length_cons] at hl; exact hl
      rw [cutL] at h
      by_cases hk : kindOf (c.toNat : Int) = 1
      · rw [if_pos hk] at h
        obtain ⟨h1, h2, h3⟩ := ih r (n + 1) ts p e (by omega) h
        exact ⟨h1, h2, fun he => ⟨(h3 he).1, by rw [List.length_cons]; have := (h3 he).2; omega⟩⟩
      · rw [if_neg hk] at h
        obtain ⟨w, hw, hwl⟩ := one_w c r
        obtain ⟨o1, o2, o3⟩ := one_ok ⟨(c :: r).toArray⟩ (by rw [cp_len, List.length_cons]; omega)
        have o3 : (oneV ⟨(c :: r).toArray⟩).2.2.1.size ≤ r.length + 1 := o3
        generalize oneV ⟨(c :: r).toArray⟩ = t at *
        obtain ⟨ta, tb, tc, td, tm⟩ := t
        have hw' : tm = (w : Int) := hw
        subst hw'
        dsimp only at h o1 o2 o3
        by_cases hz : (w : Int) = 0
        · rw [if_pos hz] at h; cases h; exact ⟨by omega, .inr rfl, fun he => (by cases he)⟩
        · rw [if_neg hz, Int.toNat_natCast] at h
          cases e2 : cutL d (List.drop w (c :: r)) (n + w) with
          | mk ts2 x =>
            obtain ⟨p2, f2⟩ := x
            have hdl : (List.drop w (c :: r)).length = r.length + 1 - w := by rw [List.length_drop, List.length_cons]
            obtain ⟨h1, h2, h3⟩ := ih _ _ _ _ _ (by omega) e2
            rw [e2] at h
            dsimp only at h
            by_cases he : f2 = 0
            · rw [if_pos he] at h
              cases h
              refine ⟨h1, h2, fun _ => ⟨fun t ht => ?_, ?_⟩⟩
              · rcases List.mem_cons.1 ht with rfl | ht
                · exact ⟨o1, o2, by show tc.size ≤ L; omega, by show (0 : Int) ≤ (n : Int); omega⟩
                · exact (h3 he).1 t ht
              · have := (h3 he).2
                rw [List.length_cons, List.length_cons]; omega
            · rw [if_neg he] at h; cases h; exact ⟨h1, h2, fun h => absurd h he⟩
theorem cutL_p : ∀ (d : Nat) (l : List UInt8) (n : Nat) (ts : List LTok) (p : Int), cutL d l n = (ts, p, 0) → p = 0 := by
  intro d
  induction d with
  | zero => intro l n ts p h; rw [cutL] at h; cases h; rfl
  | succ d ih =>
    intro l n ts p h
    cases l with
    | nil => rw [cutL_nil] at h; cases h; rfl
    | cons c r =>
      rw [cutL] at h
      by_cases hk : kindOf (c.toNat : Int) = 1
      · rw [if_pos hk] at h; exact ih _ _ _ _ h
      · rw [if_neg hk] at h
        generalize oneV ⟨(c :: r).toArray⟩ = t at *
        obtain ⟨ta, tb, tc, td, tm⟩ := t
        dsimp only at h
        by_cases hz : tm = 0
        · rw [if_pos hz] at h; cases h
        · rw [if_neg hz] at h
          cases e : cutL d (List.drop tm.toNat (c :: r)) (n + tm.toNat) with
          | mk ts2 x =>
            obtain ⟨p2, e2⟩ := x
            rw [e] at h
            dsimp only at h
            by_cases he : e2 = 0
            · subst he
              rw [if_pos rfl] at h
              cases h
              exact ih _ _ _ _ e
            · rw [if_neg he] at h; cases h; exact absurd rfl he
inductive ParseR (s : ByteArray) : NodeR → Prop where
  | bad (p c : Int) (hp : 0 ≤ p) (hc : c ≠ 0) : ParseR s (badR p c)
  | ok (t : TN) (c : Nat) (k : Nat) (d : Int) (hc : c ≤ 300) (hf : Fine c t) (hd : depO k t = some d) (h16 : d ≤ 16) (toks : List Tok) (hcut : cutL s.size s.data.toList 0 = (toks, 0, 0)) (hform : (lv toks (s.size : Int) 41).form 0 = (.ok t, toks.length)) : ParseR s (nodeR t 0 0)
theorem parse_cut (s : ByteArray) (hs : s.size ≤ 300) (k : Nat) (hk : 900 ≤ k) (ts : List LTok) (p e : Int) (h : cutL s.size s.data.toList 0 = (ts, p, e)) :
    tree_Parse.f k s = if e ≠ 0 then some (badR p e) else tokR k ts (s.size : Int) := by
  have hl := xt_len s
  obtain ⟨h1, h2, h3⟩ := cutL_ok 300 _ _ _ _ _ _ (by omega) h
  unfold tree_Parse.f
  rw [if_pos (by omega), cut_list s hs k (by omega), h]
  unfold cutR
  by_cases he : e = 0
  · subst he
    obtain ⟨g1, g2⟩ := h3 rfl
    dsimp only
    rw [if_pos rfl]
    dsimp only
    rw [if_neg (show ¬ ((0 : Int) ≠ 0) from fun h => h rfl), if_neg (show ¬ ((0 : Int) ≠ 0) from fun h => h rfl), if_pos]
    refine ⟨by omega, ?_⟩
    rw [List.all_eq_true]
    intro t ht
    exact decide_eq_true (by have := (g1 t ht).size; omega)
  · dsimp only
    rw [if_neg he]
    dsimp only
    rw [if_pos he, if_pos he]
theorem parse_all (s : ByteArray) (hs : s.size ≤ 300) : ∃ K R, ParseR s R ∧ ∀ k, K ≤ k → tree_Parse.f k s = some R := by
  have hl := xt_len s
  cases hc : cutL s.size s.data.toList 0 with
  | mk ts x =>
    obtain ⟨p, e⟩ := x
    obtain ⟨h1, h2, h3⟩ := cutL_ok 300 _ _ _ _ _ _ (by omega) hc
    by_cases he : e = 0
    · subst he
      obtain ⟨g1, g2⟩ := h3 rfl
      have hp : ∀ k, 900 ≤ k → tree_Parse.f k s = tokR k ts (s.size : Int) := fun k hk => (parse_cut s hs k hk ts p 0 hc).trans (if_neg (by decide))
      have hB := (bad_lv g1 (en := (s.size : Int)) (by omega) 41).1 0 (Nat.zero_le _)
      have hF := (fit_lv ts (s.size : Int) 41).1
      have hG := (good_lv g1 (by omega) (s.size : Int) 41).1 0 (Nat.zero_le _)
      cases hf : (lv ts (s.size : Int) 41).form 0 with
      | mk r n =>
        cases r with
        | bad q c =>
          obtain ⟨b1, b2⟩ := hB _ _ _ hf
          exact ⟨900, _, .bad q c b1 b2, fun k hk => by rw [hp k hk]; unfold tokR; rw [hf]⟩
        | ok t =>
          have hle := hF.le (Nat.zero_le _) hf
          by_cases hn : n < ts.length
          · exact ⟨900, _, .bad (placeV ts (s.size : Int) n) 13 (place_ge g1 (by omega) n) (by decide), fun k hk => by rw [hp k hk]; unfold tokR; rw [hf]; dsimp only; rw [if_pos hn]⟩
          · obtain ⟨c, c1, c2, hfine⟩ := hG _ _ hf
            obtain ⟨K, d, hd, d1, d2⟩ := hfine.dep
            by_cases h16 : 16 < d
            · exact ⟨900 + K, _, .bad 0 14 (by decide) (by decide), fun k hk => by rw [hp k (by omega)]; unfold tokR; rw [hf]; dsimp only; rw [if_neg hn, depO_any (show K ≤ k by omega) hd]; dsimp only; rw [if_pos h16]⟩
            · have hnn : n = ts.length := by omega
              subst hnn
              have hp0 : p = 0 := cutL_p _ _ _ _ _ hc
              subst hp0
              exact ⟨900 + K, _, .ok t c K d (by omega) hfine hd (by omega) ts hc hf, fun k hk => by rw [hp k (by omega)]; unfold tokR; rw [hf]; dsimp only; rw [if_neg hn, depO_any (show K ≤ k by omega) hd]; dsimp only; rw [if_neg h16]⟩
    · exact ⟨900, _, .bad p e h1 he, fun k hk => (parse_cut s hs k hk ts p e hc).trans (if_pos he)⟩
end Go.Proofs.YtnomfbmebafolaaGreatDoor.P

namespace Go.Proofs.YtnomfbmebafolaaGreatDoor.P
open Go.RowKit Go.Proofs.YtnomfbmebafolaaGreatDoorW.PrintWords Go.Proofs.YtnomfbmebafolaaGreatDoorW.PrintLast Go.Proofs.YtnomfbmebafolaaGreatDoorW.PrintMore
open M (I64 itoaF)
set_option linter.unusedVariables false
set_option linter.unusedSimpArgs false
theorem dig_ne (k u : Nat) : M.dig (k + 1) u ≠ [] := by rw [M.dig]; split <;> simp
theorem itoa_head (v : Int) : ∃ c l, itoaF v = c :: l ∧ (c.toNat = 45 ∨ (48 ≤ c.toNat ∧ c.toNat ≤ 57)) := by
  unfold M.itoaF
  split
  · exact ⟨45, _, rfl, Or.inl rfl⟩
  · cases hd : M.dig 20 v.toNat with
    | nil => exact absurd hd (dig_ne 19 _)
    | cons c l => exact ⟨c, l, rfl, Or.inr (M.dig_digits 20 v.toNat c (by rw [hd]; exact List.mem_cons_self ..))⟩
theorem bt_head {s : ByteArray} {c : UInt8} {l : List UInt8} (h : s.data.toList = c :: l) : bt s 0 = (c.toNat : Int) := by
  have e := bt_bu s 0
  unfold bu at e
  rw [h] at e
  exact e
theorem sz_list (s : ByteArray) : s.data.toList.length = s.size := Array.length_toList
theorem np_not {s : ByteArray} (hs : s.size ≤ 300) {c : UInt8} {l : List UInt8} (h : s.data.toList = c :: l) (h1 : c.toNat ≠ 45) (h2 : c.toNat < 48 ∨ 57 < c.toNat) : num_Parse.f s = some (0, false) := by
  unfold num_Parse.f
  rw [if_pos (by omega), M.numParse_not]
  intro v _ _ e
  obtain ⟨c', l', e', hh⟩ := itoa_head v
  rw [e', h] at e
  cases e
  omega
theorem list_ne {s : ByteArray} {c d : UInt8} {l m : List UInt8} (h : s.data.toList = c :: l) (hcd : c ≠ d) : s ≠ ⟨(d :: m).toArray⟩ := by
  rintro rfl
  have h : d :: m = c :: l := h
  exact hcd (List.cons.inj h).1.symm
theorem list_ne0 {s : ByteArray} {c : UInt8} {l : List UInt8} (h : s.data.toList = c :: l) : s ≠ (⟨#[]⟩ : ByteArray) := by
  rintro rfl
  cases h
theorem quo_list (s : ByteArray) : ((⟨#[39]⟩ : ByteArray) ++ s).data.toList = 39 :: s.data.toList := by simp [ByteArray.data_append]
theorem quo_size (s : ByteArray) : ((⟨#[39]⟩ : ByteArray) ++ s).size = 1 + s.size := by rw [ByteArray.size_append]; rfl
theorem quo_rest (s : ByteArray) : ((⟨#[39]⟩ : ByteArray) ++ s).extract 1 ((⟨#[39]⟩ : ByteArray) ++ s).size = s := by
  apply ByteArray.ext
  apply Array.ext'
  rw [cp_rest, quo_list, quo_size, List.drop_succ_cons, List.drop_zero, List.take_of_length_le (by rw [sz_list]; omega)]
theorem sread_q (k : Nat) (s : ByteArray) (hs : s.size ≤ 200) : sreadF k ((⟨#[39]⟩ : ByteArray) ++ s) = some (.inl (1, 3, 0, s, zN)) := by
  have hl := quo_list s
  have hz := quo_size s
  have hb : bt ((⟨#[39]⟩ : ByteArray) ++ s) 0 = 39 := bt_head hl
  unfold sreadF
  rw [if_neg (list_ne0 hl), if_neg (by omega), if_neg (by rw [hb]; decide), if_neg (list_ne hl (by decide)), if_neg (list_ne hl (by decide)), np_not (by omega) hl (by decide) (by decide), Option.bind_some]
  dsimp only
  rw [if_neg (by decide), if_pos hb, quo_rest]
  unfold stxtX
  rw [if_neg (by omega)]
theorem sread_i (k : Nat) (n : Int) (hn : I64 n) : sreadF k (bs (itoaF n)) = some (.inl (1, 2, n, ⟨#[]⟩, zN)) := by
  obtain ⟨c, l, hl, hc⟩ := itoa_head n
  have hl' : (bs (itoaF n)).data.toList = c :: l := hl
  have hz : (bs (itoaF n)).size ≤ 21 := itoa_len n
  have hb := bt_head hl'
  unfold sreadF
  rw [if_neg (list_ne0 hl'), if_neg (by omega), if_neg (by rw [hb]; omega), if_neg (list_ne hl' (by rintro rfl; simp at hc)), if_neg (list_ne hl' (by rintro rfl; simp at hc))]
  have hp : num_Parse.f (bs (itoaF n)) = some (n, true) := by
    unfold num_Parse.f
    rw [if_pos (by omega)]
    exact congrArg some (M.numParse_itoa n hn.1 hn.2)
  rw [hp, Option.bind_some]
  dsimp only
  rw [if_pos rfl]
theorem read_of {k : Nat} {s : ByteArray} {a b c : Int} {d : ByteArray} {t : TN} (h : sreadF k s = some (.inl (a, b, c, d, t))) : source_Read.f k s = some (srGood a b c d t) := by
  unfold source_Read.f
  rw [h]
  rfl
theorem same_not {a b c d : Int} {x y : ByteArray} (h : a ≠ c) : value_Same.f a b x c d y = some false := by unfold value_Same.f; rw [if_neg h]
theorem text_of {k : Nat} {s : ByteArray} (hs : s.size ≤ 200) {x : SrX} (h : sreadF k s = some x) : source_text.f k 3 0 s = stextO 3 0 s x := by
  unfold source_text.f
  rw [if_pos (by omega), h, Option.bind_some]
theorem stext_one (b c : Int) (d : ByteArray) (t : TN) (s : ByteArray) (q : Bool) (h : value_Same.f b c d 3 0 s = some q) : stextO 3 0 s (.inl (1, b, c, d, t)) = some (if q = true then s else (⟨#[39]⟩ : ByteArray) ++ s) := by
  show (if (1 : Int) = 1 then (value_Same.f b c d 3 0 s).map fun q => if q = true then s else (⟨#[39]⟩ : ByteArray) ++ s else some ((⟨#[39]⟩ : ByteArray) ++ s)) = _
  rw [if_pos rfl, h]; rfl
theorem stext_two (b c : Int) (d : ByteArray) (t : TN) (s : ByteArray) : stextO 3 0 s (.inl (2, b, c, d, t)) = some ((⟨#[39]⟩ : ByteArray) ++ s) := by
  show (if (2 : Int) = 1 then (value_Same.f b c d 3 0 s).map fun q => if q = true then s else (⟨#[39]⟩ : ByteArray) ++ s else some ((⟨#[39]⟩ : ByteArray) ++ s)) = _
  rw [if_neg (by decide)]
theorem text_two_ways (s : ByteArray) (hs : s.size ≤ 200) : ∃ K, ∀ k, K ≤ k → (source_text.f k 3 0 s = some s ∧ sreadF k s = some (.inl (1, 3, 0, s, zN))) ∨ source_text.f k 3 0 s = some ((⟨#[39]⟩ : ByteArray) ++ s) := by
  obtain ⟨K, R, -, hR⟩ := parse_all (s.extract 1 s.size) (by rw [ByteArray.size_extract]; omega)
  refine ⟨K, fun k hk => ?_⟩
  by_cases h1 : s = (⟨#[]⟩ : ByteArray)
  · right
    have hx : sreadF k s = some (.inl (0, 0, 0, ⟨#[]⟩, zN)) := by unfold sreadF; rw [if_pos h1]
    rw [text_of hs hx]; rfl
  have h0 := bt_lt s h1
  have h2 : ¬ 300 < s.size := by omega
  by_cases h3 : bt s 0 = 61
  · right
    have hx : sreadF k s = sparX R := by unfold sreadF; rw [if_neg h1, if_neg h2, if_pos h3, hR k hk, Option.bind_some]
    unfold sparX at hx
    by_cases hz : R.2.2.2.2.2.2.2.2.2.2.2 = 0
    · rw [if_pos hz] at hx
      rw [text_of hs hx]
      exact stext_two _ _ _ _ _
    · rw [if_neg hz] at hx
      rw [text_of hs hx]; rfl
  by_cases h4 : s = (⟨#[84, 82, 85, 69]⟩ : ByteArray)
  · right
    have hx : sreadF k s = some (.inl (1, 1, 1, ⟨#[]⟩, zN)) := by unfold sreadF; rw [if_neg h1, if_neg h2, if_neg h3, if_pos h4]
    rw [text_of hs hx]
    exact stext_one _ _ _ _ _ false (same_not (by decide))
  by_cases h5 : s = (⟨#[70, 65, 76, 83, 69]⟩ : ByteArray)
  · right
    have hx : sreadF k s = some (.inl (1, 1, 0, ⟨#[]⟩, zN)) := by unfold sreadF; rw [if_neg h1, if_neg h2, if_neg h3, if_neg h4, if_pos h5]
    rw [text_of hs hx]
    exact stext_one _ _ _ _ _ false (same_not (by decide))
  have hx : sreadF k s = (num_Parse.f s).bind fun r => if r.2 = true then some (.inl (1, 2, r.1, ⟨#[]⟩, zN)) else if bt s 0 = 39 then stxtX (s.extract 1 s.size) else stxtX s := by unfold sreadF; rw [if_neg h1, if_neg h2, if_neg h3, if_neg h4, if_neg h5]
  have hp : num_Parse.f s = some (M.numParse s.data.toList) := by unfold num_Parse.f; rw [if_pos (by omega)]
  rw [hp, Option.bind_some] at hx
  cases hq : M.numParse s.data.toList with
  | mk n q =>
    rw [hq] at hx
    dsimp only at hx
    cases q with
    | true =>
      right
      rw [if_pos rfl] at hx
      rw [text_of hs hx]
      exact stext_one _ _ _ _ _ false (same_not (by decide))
    | false =>
      rw [if_neg (by decide)] at hx
      by_cases h6 : bt s 0 = 39
      · right
        have he : (s.extract 1 s.size).size = s.size - 1 := by rw [ByteArray.size_extract]; omega
        rw [if_pos h6] at hx
        unfold stxtX at hx
        rw [if_neg (by rw [he]; omega)] at hx
        rw [text_of hs hx]
        have hne : ((s.extract 1 s.size).toList == s.toList) = false := by
          refine beq_eq_false_iff_ne.2 fun e => ?_
          have e2 := congrArg List.length e
          rw [ByteArray.toList_eq, ByteArray.toList_eq, sz_list, sz_list, he] at e2
          omega
        have hsm : value_Same.f 3 0 (s.extract 1 s.size) 3 0 s = some false := by unfold value_Same.f; rw [if_pos rfl, if_pos rfl, hne]
        exact stext_one _ _ _ _ _ false hsm
      · left
        rw [if_neg h6] at hx
        unfold stxtX at hx
        rw [if_neg (by omega)] at hx
        refine ⟨?_, hx⟩
        rw [text_of hs hx]
        have hsm : value_Same.f 3 0 s 3 0 s = some true := by unfold value_Same.f; rw [if_pos rfl, if_pos rfl, beq_self_eq_true]
        exact stext_one _ _ _ _ _ true hsm
theorem same_zero (k : Nat) (hk : 9 ≤ k) : tree_Same.f k 0 0 0 ⟨#[]⟩ 0 0 0 0 ⟨#[]⟩ [] 0 0 0 ⟨#[]⟩ 0 0 0 0 ⟨#[]⟩ [] = some true :=
  at_rounds (g := fun k => tree_Same.f k 0 0 0 ⟨#[]⟩ 0 0 0 0 ⟨#[]⟩ [] 0 0 0 ⟨#[]⟩ 0 0 0 0 ⟨#[]⟩ []) (fun k r h => tree_Same.mono _ _ _ _ _ _ _ _ _ _ _ _ _ _ _ _ _ _ _ _ k r h) hk (show tree_Same.f 9 0 0 0 ⟨#[]⟩ 0 0 0 0 ⟨#[]⟩ [] 0 0 0 ⟨#[]⟩ 0 0 0 0 ⟨#[]⟩ [] = some true by decide +kernel)
theorem write_i (k : Nat) (hk : 9 ≤ k) (n : Int) (hn : I64 n) : source_Write.f k 1 2 n ⟨#[]⟩ 0 0 0 ⟨#[]⟩ 0 0 0 0 ⟨#[]⟩ [] = some (bs (itoaF n), 0) := by
  have hz : (bs (itoaF n)).size ≤ 21 := itoa_len n
  have hg : value_Good.f 2 n (⟨#[]⟩ : ByteArray) = some true := by unfold value_Good.f; rw [if_neg (by decide), if_neg (by decide), if_pos rfl, ByteArray.toList_eq]; rfl
  have hs : value_Show.f 2 n (⟨#[]⟩ : ByteArray) = some (bs (itoaF n)) := by
    unfold value_Show.f
    rw [hg, Option.bind_some, if_pos rfl, if_pos rfl]
    exact dec_one n hn
  unfold source_Write.f
  rw [if_pos ⟨rfl, rfl, rfl, rfl, rfl, rfl, rfl, rfl, rfl, rfl, rfl⟩, same_zero k hk, Option.bind_some, if_pos rfl, if_pos ⟨rfl, rfl⟩, hs, Option.bind_some, if_pos (by omega)]
theorem write_t (k : Nat) (hk : 9 ≤ k) (s t : ByteArray) (hs : s.size ≤ 200) (ht : source_text.f k 3 0 s = some t) (hz : t.size ≤ 300) : source_Write.f k 1 3 0 s 0 0 0 ⟨#[]⟩ 0 0 0 0 ⟨#[]⟩ [] = some (t, 0) := by
  unfold source_Write.f
  rw [if_pos ⟨rfl, rfl, rfl, rfl, rfl, rfl, rfl, rfl, rfl, rfl, rfl⟩, same_zero k hk, Option.bind_some, if_pos rfl, if_neg (fun h => absurd h.1 (by decide)), if_pos ⟨rfl, rfl, hs⟩, ht, Option.bind_some, if_pos hz]
set_option maxRecDepth 100000 in
theorem wakes_seven : pannierlaw07_wakes.f 1000 = some true := by decide +kernel
set_option maxHeartbeats 4000000 in
set_option maxRecDepth 100000 in
theorem kinds_long (n : Int) (s : ByteArray) (hs : 200 < s.size) (W : World) (hG : G5 W) : Calls Tryz.prog 4 #[.int .i64 n, .string s] W fun e W' => e = .returned (.bool true) ∧ Below W.heap.size W W' := by
  have HG := Lib.hid hG
  have HW := Lib.hid wakes_seven
  have z1 : decide ((200 : Int) < (s.size : Int)) = true := decide_eq_true (by omega)
  clear hG hs
  go_enter Tryz.func4, Tryz.ntmps4
  go_wp2_with (first | (go_at_call 7; (with_reducible refine (pannierlaw07_wakes.calls 1000 true _ ?sg HW.out).mono ?_); (case sg => exact HG.out); rintro e w6 ⟨rfl, hb6⟩))
  go_ret
  exact ⟨rfl, hb6⟩
theorem kinds_all (n : Int) (hn : I64 n) (s : ByteArray) (W : World) (hG : G5 W) : Calls Tryz.prog 4 #[.int .i64 n, .string s] W fun e W' => e = .returned (.bool true) ∧ Below W.heap.size W W' := by
  by_cases hs : 200 < s.size
  · exact kinds_long n s hs W hG
  have hs : s.size ≤ 200 := by omega
  obtain ⟨K, hK⟩ := text_two_ways s hs
  have hz : (bs (itoaF n)).size ≤ 21 := itoa_len n
  have h1 := write_i (9 + K) (by omega) n hn
  have h2 := read_of (sread_i (9 + K) n hn)
  have h3 := read_of (sread_q (9 + K) (bs (itoaF n)) (by omega))
  rcases hK (9 + K) (by omega) with ⟨ht, hr⟩ | ht
  · exact kinds_bare n s _ s (9 + K) hs (by omega) h1 h2 h3 (write_t _ (by omega) s s hs ht (by omega)) (read_of hr) wakes_seven rfl W hG
  · exact kinds_quoted n s _ _ (9 + K) hs (by omega) h1 h2 h3 (write_t _ (by omega) s _ hs ht (by rw [quo_size]; omega)) (read_of (sread_q (9 + K) s hs)) wakes_seven rfl W hG
def pannierlaw07_SourceKinds.f (k : Nat) (n : Int) (s : ByteArray) : Option Bool := if -9223372036854775808 ≤ n ∧ n ≤ 9223372036854775807 then some true else none
theorem pannierlaw07_SourceKinds.calls (k : Nat) (n : Int) (s : ByteArray) (r : Bool) (w : World) (hG : G5 w) (h : pannierlaw07_SourceKinds.f k n s = some r) :
    Calls Tryz.prog 4 #[.int .i64 n, .string s] w fun e w' => e = .returned (.bool r) ∧ Below w.heap.size w w' := by
  unfold pannierlaw07_SourceKinds.f at h
  split at h
  · rename_i hc
    obtain rfl := Option.some.inj h
    exact kinds_all n hc s w hG
  · cases h
theorem SourceKinds_pure (n : Int) (s : ByteArray) (hn : (Lit.int .i64 n).wf = true) (hs : s.size ≤ 140737488351232) : ∃ k, pannierlaw07_SourceKinds.f k n s = some true :=
  ⟨0, if_pos (M.i64wf hn)⟩
end Go.Proofs.YtnomfbmebafolaaGreatDoor.P
