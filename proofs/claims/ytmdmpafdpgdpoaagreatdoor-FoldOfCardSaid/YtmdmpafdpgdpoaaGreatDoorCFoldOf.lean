/- 'pannierlaw10.FoldOf' answers true of every input: its row, and the card that ties what the row lists to the program's text. -/
import Derived.Test.YtmdmpafdpgdpoaaGreatDoorBFO2
import Derived.Test.YtmdmpafdpgdpoaaGreatDoorRows
import Derived.Test.YtmdmpafdpgdpoaaGreatDoorTie
import Derived.Test.YtmdmpafdpgdpoaaGreatDoorCards
import Derived.Test.YtmdmpafdpgdpoaaGreatDoorBFO6
import Derived.Test.YtmdmpafdpgdpoaaGreatDoorBFO7
import Derived.ProofKit
import Derived.LaidMore
import Derived.OpenShut
import Derived.Stop.Joined
import Derived.Stop.LaidErr
import Derived.Lib.LaidTab
import Derived.ShutString
import Derived.ChangeOld
import Derived.Below
import Derived.SizedLaws
import Derived.Carry
import Derived.WalkKit
import Derived.SevenTiedAt
import Derived.MakeChecks
import Derived.LaidHandle
namespace Go.Proofs.YtmdmpafdpgdpoaaGreatDoor.foldOf
open Go.ChangeShapes Go.WideShapes Go.ChangeAt Go.RowKit
open Go.ChangeMaps (open_string shut_string)
set_option linter.unusedVariables false
set_option linter.unusedSimpArgs false
theorem own : ownKnob Tryz.prog.godebug = none := by kernel_rfl
theorem door_met (os : Os) (args : Array Value) : laidMetH Tryz.prog Rows.foldOfRow.laid ((World.doorLaid Tryz.prog 62 os).forCall (fun _ _ => 0) ⟨#[], args, []⟩).memory :=
  laidMetH_of_parts3 (fuel := 8) (laidMet_of_run' 8 (by kernel_rfl) (by kernel_rfl)) (by kernel_rfl) (by kernel_rfl)
theorem star : "*" ++ "errors.errorString" = "*errors.errorString" := by decide
theorem row115 (u : TypeId) (h : Tryz.prog.typeName? 3 u = some "*errors.errorString") : u = 115 :=
  typeName_ptr_named (nm := "errors.errorString") (by rw [star]; kernel_rfl) (by kernel_rfl) (by decide) u (by rw [star]; exact h)
theorem globals {W : World} (h : laidMetH Tryz.prog Rows.foldOfRow.laid W) : P.G2 W := by
  rw [MakeChecks.laidMetH_plain _ _ _ (by kernel_rfl)] at h
  have h1 : P.G1 W := Lib.tabIs_of_head (g := 2) (t := 120) (e := 56) (by kernel_rfl) (by kernel_rfl) Tryz.underlying120 Tryz.underlying56 (by kernel_rfl) (by kernel_rfl) (h.tail.tail)
  obtain ⟨As, ss, hvs, -, -, -⟩ := laid_sentinel (h.tail.tail.tail.tail) (g := 0) (by kernel_rfl) (by kernel_rfl) Tryz.underlying86 row115 Tryz.underlying115 Tryz.underlying117 rfl rfl Tryz.underlying9 (by kernel_rfl) (by kernel_rfl)
  obtain ⟨Ar, sr, hvr, -, -, -⟩ := laid_sentinel (h.tail.tail.tail) (g := 1) (by kernel_rfl) (by kernel_rfl) Tryz.underlying86 row115 Tryz.underlying115 Tryz.underlying117 rfl rfl Tryz.underlying9 (by kernel_rfl) (by kernel_rfl)
  exact ⟨h1, ⟨_, _, hvs⟩, _, _, hvr⟩
set_option maxRecDepth 100000 in
theorem lifted (os : Os) (started : os.Started) (H : Type) (enc : TypeId × Value → H) :
    ReturnsInHanded {} Tryz.checked os 3 .any (fun w args => (Rows.foldOfSpec.pre enc Tryz.prog Tryz.f3 [] false w args ∧ laidMetH Tryz.prog Rows.foldOfRow.laid w) ∧ sizedMet enc Tryz.prog Tryz.f3 (OpenSpec.ofChange Rows.foldOfSpec) false w args)
      (Rows.foldOfSpec.post enc Tryz.prog Tryz.f3 false true false false) := by
  refine returnsInHanded_of_change_and (C := Tryz.checked) (X := fun w _ => laidMetH Tryz.prog Rows.foldOfRow.laid w) (fun _ _ _ hh h => h.of_heap hh) own started (by kernel_rfl) Tryz.func3
    (ChangeSpec.witness_shaped (enc := enc) (C := Tryz.checked) (os := os) (X := fun w _ => laidMetH Tryz.prog Rows.foldOfRow.laid w) false (World.doorLaid Tryz.prog 62 os) #[.string ByteArray.empty, .slice none 0 0] 8 rfl (World.shaped_of_RefB (by kernel_rfl) (by kernel_rfl)) (by kernel_rfl) (by kernel_rfl) (by kernel_rfl) (door_met os _)) ?_
  intro W base args ds gs before hval0 hW hcnd hsz0 hL _
  have hsz : (DataW.weightsEach Tryz.prog (Tryz.f3.params.toList ++ Rows.foldOfSpec.plain.varTypes Tryz.prog) (ds ++ gs)).all (· ≤ reachBytes) = true := hsz0
  have hval : ∀ (j : Nat) t v, Tryz.f3.params[j]? = some t → args[j]? = some v → Value.okWide Tryz.prog W .any base t v := hval0
  have hW' := hW
  obtain ⟨p, q, hA0, hV, rfl, hfz, hnd⟩ := hW
  have hA : DataW.TrodAll enc Tryz.prog W 0 (fun _ => true) true Tryz.f3.params.toList args.toList ds p := hA0
  rw [Tryz.params3] at hA hval hsz
  obtain ⟨v0, vs0, d0, ds0, p0, q0, hargs, rfl, rfl, h0, r0⟩ := trodAll_cons hA
  obtain ⟨v1, vs1, d1, ds1, p1, q1, rfl, rfl, rfl, h1, r1⟩ := trodAll_cons r0
  obtain ⟨rfl, rfl, rfl⟩ := trodAll_nil r1
  obtain rfl : args = #[v0, v1] := by cases args; simp_all
  obtain ⟨rfl, rfl⟩ := trodVars_none hV
  obtain ⟨a0, rfl, rfl, rfl, y0⟩ := open_string Tryz.underlying9 (hval 0 9 v0 rfl rfl) h0
  have w0 : a0.size ≤ 140737488351232 := by
    have z := sized_string hsz (j := 0) (t := 9) rfl rfl
    rw [Array.length_toList] at z
    exact z
  have k1 := h1
  obtain ⟨A1, c1, l1, rfl, hc1, hr1, w1, lt1, sz1⟩ := P.open_slice (d := P.k26) (wf := fun x => (Lit.int .i64 x.f0).wf = true ∧ (Lit.int .i64 x.f1).wf = true) Tryz.underlying22 (by kernel_rfl) (fun _ _ _ h => P.elem_value h) (hval 1 22 v1 rfl rfl) h1
  have z1 := P.sized_of (B := 32) hsz (j := 1) rfl rfl Tryz.underlying22 (by kernel_rfl) sz1
  clear hA0 hval0 hsz0 hsz
  have hG := globals hL
  obtain ⟨k, hk⟩ := P.FoldOf_pure a0 l1 w0 z1 w1
  refine (P.pannierlaw10_FoldOf.calls k a0 A1 c1 l1 true W hr1 hc1 hG hk).mono fun e W' ⟨he, bel⟩ => ?_
  subst he
  exact ⟨_, rfl, _, _, _, [], _, [], hW', trodAll_mk1 (shut_bool Tryz.underlying4 _), (trodAll_cons_mk (shut_string Tryz.underlying9 y0) (trodAll_cons_mk (Below.trod P.laidOut (by kernel_rfl) (of_decide_eq_true (by kernel_rfl)) k1 bel lt1) trodAll_mk0)), rfl, bel.frame _, fun h => by cases h⟩
theorem row_holds : Rows.FoldOfSaid :=
  OpenClaim.holds_of_wide 3 Tryz.f3 rfl rfl rfl rfl rfl rfl rfl ⟨rfl, rfl, rfl, rfl, rfl⟩ rfl rfl rfl rfl rfl (by kernel_rfl) Tryz.func3 (by kernel_rfl)
    (of_decide_eq_true (by kernel_rfl)) (by unfold Func.isWrapper; first | (rw [if_pos (by decide +kernel)]; kernel_rfl) | (rw [if_neg (by decide +kernel)]; exact ⟨rfl, rfl⟩))
    (fun os started H enc _ => lifted os started H enc)
end Go.Proofs.YtmdmpafdpgdpoaaGreatDoor.foldOf
namespace Go.Proofs.YtmdmpafdpgdpoaaGreatDoor
/-- The card, under a short name, for the claim. -/
theorem foldOf_card : Rows.FoldOfCardSaid :=
  Claim7.holds_tied_plain_at .later [] [.data, .data, .data, .sentinel, .sentinel] true (true, "23760ea185ab831fc7fb412270c9b2fc5c7ab4d757345783e4e466a1b8201743") true
    foldOf.row_holds (fun _ h => by cases h) (by kernel_rfl) (fun _ h => by cases h) foldOf_row_tie rfl ⟨rfl, rfl⟩ (by kernel_rfl) rfl
    (fun f fn hf hfn => by
      obtain rfl : f = 3 := Option.some.inj ((show Tryz.prog.funcNamed "pannier/pannierlaw10.FoldOf" = some 3 by kernel_rfl).symm.trans hf) |>.symm
      obtain rfl : fn = Tryz.f3 := (Option.some.inj (Tryz.func3.symm.trans hfn)).symm
      exact ⟨by kernel_rfl, fun j t ht => by
        rw [Tryz.params3] at ht
        have hm : t ∈ [9, 22] := by simpa using Array.mem_of_getElem? ht
        have hall : ([9, 22].all fun u => !Tryz.prog.wantsStandIn u) = true := by kernel_rfl
        exact (show Tryz.prog.wantsStandIn t = false by simpa using List.all_eq_true.1 hall t hm)⟩)
    (by kernel_rfl)
#print axioms foldOf_card
end Go.Proofs.YtmdmpafdpgdpoaaGreatDoor