/- Contracts of the functions that the law reaches, each with the plain function that it comes to, and plain facts about these. -/
import Derived.Test.YtmdmpafdpgdpoaaDoorBLm1
import Derived.Test.YtmdmpafdpgdpoaaDoorBLm2


namespace Go.Proofs.YtmdmpafdpgdpoaaDoor.P
open Go.RowKit Go.Proofs.YtmdmpafdpgdpoaaDoorW.PrintWords Go.Proofs.YtmdmpafdpgdpoaaDoorW.PrintLast Go.Proofs.YtmdmpafdpgdpoaaDoorW.PrintMore
open M (I64)
set_option linter.unusedVariables false
set_option linter.unusedSimpArgs false
def longW : List ByteArray := [(⟨#[60, 61]⟩ : ByteArray), (⟨#[60, 62]⟩ : ByteArray), (⟨#[62, 61]⟩ : ByteArray), (⟨#[60]⟩ : ByteArray), (⟨#[62]⟩ : ByteArray), (⟨#[61]⟩ : ByteArray), (⟨#[65, 49]⟩ : ByteArray), (⟨#[83, 85, 77]⟩ : ByteArray), (⟨#[49, 50]⟩ : ByteArray), (⟨#[48, 48, 55]⟩ : ByteArray), (⟨#[34, 120, 34]⟩ : ByteArray), (⟨#[40]⟩ : ByteArray), (⟨#[41]⟩ : ByteArray), (⟨#[44]⟩ : ByteArray), (⟨#[58]⟩ : ByteArray), (⟨#[43]⟩ : ByteArray), (⟨#[38]⟩ : ByteArray), (⟨#[94]⟩ : ByteArray), (⟨#[37]⟩ : ByteArray)]
theorem long_mod (k : Nat) (a0 a1 b0 b1 : Int) (h0 : Int.tmod (wrap64 a0) 19 = Int.tmod (wrap64 b0) 19) (h1 : Int.tmod (wrap64 a1) 19 = Int.tmod (wrap64 b1) 19) : pannierlaw04_LexLongest.f k a0 a1 = pannierlaw04_LexLongest.f k b0 b1 := by
  unfold pannierlaw04_LexLongest.f
  change (Option.bind (some longW) _) = (Option.bind (some longW) _)
  rw [Option.bind_some, Option.bind_some, show (longW.length : Int) = 19 from rfl, h0, h1]
set_option maxRecDepth 100000 in
theorem long_fin : ∀ i j : Fin 19, pannierlaw04_LexLongest.f 200 (i.val : Int) (j.val : Int) = some true := by decide +kernel
theorem long_one (a : Int) (h : 0 ≤ a ∧ a < 256) : ∃ i : Fin 19, Int.tmod (wrap64 a) 19 = Int.tmod (wrap64 (i.val : Int)) 19 := by
  refine ⟨⟨(a % 19).toNat, by omega⟩, ?_⟩
  have h2 : (((a % 19).toNat : Nat) : Int) = a % 19 := by omega
  rw [h2, M.wrap64_id (by unfold I64; omega), M.wrap64_id (by unfold I64; omega), Int.tmod_eq_emod_of_nonneg h.1, Int.tmod_eq_emod_of_nonneg (by omega), Int.emod_emod]
theorem LexLongest_pure (a0 a1 : Int) (h0 : (Lit.int .u8 a0).wf = true) (h1 : (Lit.int .u8 a1).wf = true) : ∃ k, pannierlaw04_LexLongest.f k a0 a1 = some true := by
  have h0 : 0 ≤ a0 ∧ a0 < 256 := by simp [Lit.wf, IntKind.min, IntKind.max, IntKind.signed, IntKind.bits] at h0; omega
  have h1 : 0 ≤ a1 ∧ a1 < 256 := by simp [Lit.wf, IntKind.min, IntKind.max, IntKind.signed, IntKind.bits] at h1; omega
  obtain ⟨i, hi⟩ := long_one a0 h0
  obtain ⟨j, hj⟩ := long_one a1 h1
  exact ⟨200, (long_mod 200 a0 a1 _ _ hi hj).trans (long_fin i j)⟩
end Go.Proofs.YtmdmpafdpgdpoaaDoor.P
