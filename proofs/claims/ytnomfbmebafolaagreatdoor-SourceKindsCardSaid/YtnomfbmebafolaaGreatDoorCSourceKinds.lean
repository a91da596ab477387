/- 'pannierlaw07.SourceKinds' answers true of every input: its row, and the card that ties what the row lists to the program's text. -/
import Derived.Lay
import Derived.Test.YtnomfbmebafolaaGreatDoorRows
import Derived.Test.YtnomfbmebafolaaGreatDoorTie
import Derived.Test.YtnomfbmebafolaaGreatDoorCards
import Derived.Test.YtnomfbmebafolaaGreatDoorBL7
import Derived.ProofKit
import Derived.LaidMore
import Derived.OpenShut
import Derived.Stop.Joined
import Derived.Stop.LaidErr
import Derived.Lib.LaidTab
import Derived.ShutString
import Derived.ChangeOld
import Derived.Below
import Derived.SizedLaws
import Derived.Carry
import Derived.WalkKit
import Derived.SevenTiedAt
import Derived.MakeChecks
import Derived.LaidHandle
namespace Go.Proofs.YtnomfbmebafolaaGreatDoor.sourceKinds
open Go.ChangeShapes Go.WideShapes Go.ChangeAt Go.RowKit
open Go.ChangeMaps (open_string shut_string)
set_option linter.unusedVariables false
set_option linter.unusedSimpArgs false
theorem own : ownKnob Tryz.prog.godebug = none := by kernel_rfl
noncomputable def witL (os : Os) : World := (World.doorLaid Tryz.prog 98 os).layVars Tryz.prog (Rows.sourceKindsRow.laid.filter fun x => x.2.handleName?.isNone)
theorem wit_met (os : Os) (args : Array Value) : laidMetH Tryz.prog Rows.sourceKindsRow.laid ((witL os).forCall (fun _ _ => 0) ⟨#[], args, []⟩).memory := by
  have e1 : ((Rows.sourceKindsRow.laid.filter fun x => x.2.handleName?.isNone).filter fun x => ((Rows.sourceKindsRow.laid.filter fun x => x.2.handleName?.isNone).map (·.1)).contains x.1) = (Rows.sourceKindsRow.laid.filter fun x => x.2.handleName?.isNone) := List.filter_eq_self.2 fun x hx => List.contains_iff_mem.2 (List.mem_map.2 ⟨x, hx, rfl⟩)
  have e2 : ((Rows.sourceKindsRow.laid.filter fun x => x.2.handleName?.isNone).filter fun x => !((Rows.sourceKindsRow.laid.filter fun x => x.2.handleName?.isNone).map (·.1)).contains x.1) = [] := List.filter_eq_nil_iff.2 fun x hx => by rw [List.contains_iff_mem.2 (List.mem_map.2 ⟨x, hx, rfl⟩)]; simp
  have h : laidMet Tryz.prog (Rows.sourceKindsRow.laid.filter fun x => x.2.handleName?.isNone) (witL os) := laidMet_layVars (w0 := World.doorLaid Tryz.prog 98 os) ((Rows.sourceKindsRow.laid.filter fun x => x.2.handleName?.isNone).map (·.1)) [] (by rw [e1]; rfl) (by rw [e1]; kernel_rfl) (by rw [e1]; kernel_rfl) (by rw [e2]; exact LaidIn.none)
  exact laidMetH_of_parts (h.of_heap (by simp [World.memory, World.forCall, Input.heap])) (by kernel_rfl)
theorem star : "*" ++ "errors.errorString" = "*errors.errorString" := by decide
theorem row197 (u : TypeId) (h : Tryz.prog.typeName? 3 u = some "*errors.errorString") : u = 197 :=
  typeName_ptr_named (nm := "errors.errorString") (by rw [star]; kernel_rfl) (by kernel_rfl) (by decide) u (by rw [star]; exact h)
theorem globals {W : World} (h : laidMetH Tryz.prog Rows.sourceKindsRow.laid W) : P.G5 W := by
  have hh_ : laidMet Tryz.prog [("math/bits.deBruijn32tab", Rows.laid_math_bits_deBruijn32tab), ("math/bits.deBruijn64tab", Rows.laid_math_bits_deBruijn64tab), ("internal/strconv.uint64pow10", Rows.laid_internal_strconv_uint64pow10), ("unicode/utf8.acceptRanges", Rows.laid_unicode_utf8_acceptRanges), ("strconv.ErrRange", Rows.laid_strconv_ErrRange), ("strconv.ErrSyntax", Rows.laid_strconv_ErrSyntax), ("pannier/source.errLong", Rows.laid_pannier_source_errLong), ("unicode/utf8.first", Rows.laid_unicode_utf8_first)] W ∧ handlesMet Tryz.prog [("errors.errorType", Rows.laid_errors_errorType)] W := h
  clear h
  obtain ⟨h, hz⟩ := hh_
  have h1 : P.G1 W := Lib.tabIs_of_head (g := 2) (t := 188) (e := 169) (by kernel_rfl) (by kernel_rfl) Tryz.underlying188 Tryz.underlying169 (by kernel_rfl) (by kernel_rfl) (h.tail.tail)
  obtain ⟨As, ss, hvs, -, -, -⟩ := laid_sentinel (h.tail.tail.tail.tail.tail) (g := 3) (by kernel_rfl) (by kernel_rfl) Tryz.underlying64 row197 Tryz.underlying197 Tryz.underlying199 rfl rfl Tryz.underlying9 (by kernel_rfl) (by kernel_rfl)
  obtain ⟨Ar, sr, hvr, -, -, -⟩ := laid_sentinel (h.tail.tail.tail.tail) (g := 4) (by kernel_rfl) (by kernel_rfl) Tryz.underlying64 row197 Tryz.underlying197 Tryz.underlying199 rfl rfl Tryz.underlying9 (by kernel_rfl) (by kernel_rfl)
  have hg2 : P.G2 W := ⟨h1, ⟨_, _, hvs⟩, _, _, hvr⟩
  obtain ⟨name, u, ty, e1, e2, e3, e4, e5⟩ := hz _ (List.mem_singleton.2 rfl)
  have en : name = [101, 114, 114, 111, 114] := (Option.some.inj e1).symm
  subst en
  obtain rfl := Option.some.inj ((show (Tryz.prog.cutTypes.find? (·.1 == "internal/reflectlite.rtype")).map (·.2) = some 145 by kernel_rfl).symm.trans e2)
  have hm : ty ∈ (List.range 242).filter fun t => Tryz.prog.rowNamed t [101, 114, 114, 111, 114] := List.mem_filter.2 ⟨List.mem_range.2 (by rw [← (show Tryz.prog.types.size = 242 by kernel_rfl)]; exact e3), e4⟩
  rw [show ((List.range 242).filter fun t => Tryz.prog.rowNamed t [101, 114, 114, 111, 114]) = [64] by kernel_rfl] at hm
  obtain rfl := List.mem_singleton.1 hm
  rw [show typeHandle Tryz.prog 64 = .pointer (some ⟨10, 64, none⟩) by kernel_rfl] at e5
  have hg4 : P.G4 W := ⟨hg2, by simpa using World.var?_cell (show Tryz.prog.globalNamed "errors.errorType" = some 1 by kernel_rfl) e5 0⟩
  obtain ⟨Al_, sl_, hvl_, -, -, -⟩ := laid_sentinel (h.tail.tail.tail.tail.tail.tail) (g := 0) (by kernel_rfl) (by kernel_rfl) Tryz.underlying64 row197 Tryz.underlying197 Tryz.underlying199 rfl rfl Tryz.underlying9 (by kernel_rfl) (by kernel_rfl)
  exact ⟨hg4, _, _, by simpa using World.var?_cell (show Tryz.prog.globalNamed "pannier/source.errLong" = some 0 by kernel_rfl) hvl_ 0⟩
set_option maxRecDepth 100000 in
theorem lifted (os : Os) (started : os.Started) (H : Type) (enc : TypeId × Value → H) :
    ReturnsInHanded {} Tryz.checked os 4 .any (fun w args => (Rows.sourceKindsSpec.pre enc Tryz.prog Tryz.f4 [] false w args ∧ laidMetH Tryz.prog Rows.sourceKindsRow.laid w) ∧ sizedMet enc Tryz.prog Tryz.f4 (OpenSpec.ofChange Rows.sourceKindsSpec) false w args)
      (Rows.sourceKindsSpec.post enc Tryz.prog Tryz.f4 false true false false) := by
  refine returnsInHanded_of_change_and (C := Tryz.checked) (X := fun w _ => laidMetH Tryz.prog Rows.sourceKindsRow.laid w) (fun _ _ _ hh h => h.of_heap hh) own started (by kernel_rfl) Tryz.func4
    (ChangeSpec.witness_shaped (enc := enc) (C := Tryz.checked) (os := os) (X := fun w _ => laidMetH Tryz.prog Rows.sourceKindsRow.laid w) false (witL os) #[.int .i64 0, .string ByteArray.empty] 8 ((World.layVars_os _ _ _).trans rfl) (World.shaped_of_ZipB (by kernel_rfl) (by kernel_rfl)) (by kernel_rfl) (by kernel_rfl) (by kernel_rfl) (wit_met os _)) ?_
  intro W base args ds gs before hval0 hW hcnd hsz0 hL _
  have hsz : (DataW.weightsEach Tryz.prog (Tryz.f4.params.toList ++ Rows.sourceKindsSpec.plain.varTypes Tryz.prog) (ds ++ gs)).all (· ≤ reachBytes) = true := hsz0
  have hval : ∀ (j : Nat) t v, Tryz.f4.params[j]? = some t → args[j]? = some v → Value.okWide Tryz.prog W .any base t v := hval0
  have hW' := hW
  obtain ⟨p, q, hA0, hV, rfl, hfz, hnd⟩ := hW
  have hA : DataW.TrodAll enc Tryz.prog W 0 (fun _ => true) true Tryz.f4.params.toList args.toList ds p := hA0
  rw [Tryz.params4] at hA hval hsz
  obtain ⟨v0, vs0, d0, ds0, p0, q0, hargs, rfl, rfl, h0, r0⟩ := trodAll_cons hA
  obtain ⟨v1, vs1, d1, ds1, p1, q1, rfl, rfl, rfl, h1, r1⟩ := trodAll_cons r0
  obtain ⟨rfl, rfl, rfl⟩ := trodAll_nil r1
  obtain rfl : args = #[v0, v1] := by cases args; simp_all
  obtain ⟨rfl, rfl⟩ := trodVars_none hV
  obtain ⟨a0, rfl, rfl, rfl, w0⟩ := open_int Tryz.underlying2 (hval 0 2 v0 rfl rfl) h0
  obtain ⟨a1, rfl, rfl, rfl, y1⟩ := open_string Tryz.underlying9 (hval 1 9 v1 rfl rfl) h1
  have w1 : a1.size ≤ 140737488351232 := by
    have z := sized_string hsz (j := 1) (t := 9) rfl rfl
    rw [Array.length_toList] at z
    exact z
  clear hA0 hval0 hsz0 hsz
  have hG := globals hL
  obtain ⟨k, hk⟩ := P.SourceKinds_pure a0 a1 w0 w1
  refine (P.pannierlaw07_SourceKinds.calls k a0 a1 true W hG hk).mono fun e W' ⟨he, bel⟩ => ?_
  subst he
  exact ⟨_, rfl, _, _, _, [], _, [], hW', trodAll_mk1 (shut_bool Tryz.underlying4 _), (trodAll_cons_mk (shut_int Tryz.underlying2 w0) (trodAll_cons_mk (shut_string Tryz.underlying9 y1) trodAll_mk0)), rfl, bel.frame _, fun h => by cases h⟩
theorem row_holds : Rows.SourceKindsSaid :=
  OpenClaim.holds_of_wide 4 Tryz.f4 rfl rfl rfl rfl rfl rfl rfl ⟨rfl, rfl, rfl, rfl, rfl⟩ rfl rfl rfl rfl rfl (by kernel_rfl) Tryz.func4 (by kernel_rfl)
    (of_decide_eq_true (by kernel_rfl)) (by unfold Func.isWrapper; first | (rw [if_pos (by decide +kernel)]; kernel_rfl) | (rw [if_neg (by decide +kernel)]; exact ⟨rfl, rfl⟩))
    (fun os started H enc _ => lifted os started H enc)
end Go.Proofs.YtnomfbmebafolaaGreatDoor.sourceKinds
namespace Go.Proofs.YtnomfbmebafolaaGreatDoor
/-- The card, under a short name, for the claim. -/
theorem sourceKinds_card : Rows.SourceKindsCardSaid :=
  Claim7.holds_tied_plain_at .later [] [.data, .data, .data, .data, .handle, .sentinel, .sentinel, .sentinel, .pinned] true (true, "dc28c5df34fa17af722982420f5f8e1b8da23d4f7ffdf902341d3c4cb6cbef2c") true
    sourceKinds.row_holds (fun _ h => by cases h) (by kernel_rfl) (fun _ h => by cases h) sourceKinds_row_tie rfl ⟨rfl, rfl⟩ (by kernel_rfl) rfl
    (fun f fn hf hfn => by
      obtain rfl : f = 4 := Option.some.inj ((show Tryz.prog.funcNamed "pannier/pannierlaw07.SourceKinds" = some 4 by kernel_rfl).symm.trans hf) |>.symm
      obtain rfl : fn = Tryz.f4 := (Option.some.inj (Tryz.func4.symm.trans hfn)).symm
      exact ⟨by kernel_rfl, fun j t ht => by
        rw [Tryz.params4] at ht
        have hm : t ∈ [2, 9] := by simpa using Array.mem_of_getElem? ht
        have hall : ([2, 9].all fun u => !Tryz.prog.wantsStandIn u) = true := by kernel_rfl
        exact (show Tryz.prog.wantsStandIn t = false by simpa using List.all_eq_true.1 hall t hm)⟩)
    (by kernel_rfl)
#print axioms sourceKinds_card
end Go.Proofs.YtnomfbmebafolaaGreatDoor