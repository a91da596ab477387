/- Contracts of the functions that the law reaches, each with the plain function that it comes to, and plain facts about these. -/
import Derived.Laws.Bits64
import Derived.Laws.Bits64b
import Derived.Test.YtmdmpafdpgdpoaaDoorBFE1
import Derived.Test.YtmdmpafdpgdpoaaDoorBFE2
import Derived.Test.YtmdmpafdpgdpoaaDoorBFE3
namespace Go.Proofs.YtmdmpafdpgdpoaaDoor.P
open Go.RowKit Go.Proofs.YtmdmpafdpgdpoaaDoorW.PrintWords Go.Proofs.YtmdmpafdpgdpoaaDoorW.PrintLast Go.Proofs.YtmdmpafdpgdpoaaDoorW.PrintMore
attribute [local go_sem] max2_int min2_int max_two min_two max_three min_three max_four min_four   -- for this text's walks alone
set_option linter.unusedVariables false
set_option linter.unusedSimpArgs false
end Go.Proofs.YtmdmpafdpgdpoaaDoor.P

namespace Go.Proofs.YtmdmpafdpgdpoaaDoor.P
open Go.RowKit Go.Proofs.YtmdmpafdpgdpoaaDoorW.PrintWords Go.Proofs.YtmdmpafdpgdpoaaDoorW.PrintLast Go.Proofs.YtmdmpafdpgdpoaaDoorW.PrintMore
attribute [local go_sem] max2_int min2_int max_two min_two max_three min_three max_four min_four   -- for this text's walks alone
set_option linter.unusedVariables false
set_option linter.unusedSimpArgs false
end Go.Proofs.YtmdmpafdpgdpoaaDoor.P

namespace Go.Proofs.YtmdmpafdpgdpoaaDoor.P
open Go.RowKit Go.Proofs.YtmdmpafdpgdpoaaDoorW.PrintWords Go.Proofs.YtmdmpafdpgdpoaaDoorW.PrintLast Go.Proofs.YtmdmpafdpgdpoaaDoorW.PrintMore
open M (fit I64)
set_option linter.unusedVariables false
set_option linter.unusedSimpArgs false
theorem wakes10 : pannierlaw10_wakes.f = some true := by decide +kernel
theorem rdV {l : List S23} {i : Nat} (h : i < l.length) : rd_T23 l (i : Int) = l[i] := by
  unfold rd_T23; simp [List.getD_eq_getElem?_getD, h]
theorem wrap_next {i n : Nat} (h : i < n) (hn : n ≤ 4611686018427387904) : wrap64 ((i : Int) + 1) = ((i + 1 : Nat) : Int) := by
  rw [M.wrap64_id (by unfold I64; omega)]; omega
def fairB (l : List S23) : Bool := decide (∀ x ∈ l, x.f2.size ≤ 1000) && decide (l.length ≤ 500)
theorem fair_loop (l : List S23) (hl : l.length ≤ 4398046511104) (ha : ∀ x ∈ l.take 0, x.f2.size ≤ 1000) : ∀ (d i k : Nat), i + d = l.length → d < k → (∀ x ∈ l.take i, x.f2.size ≤ 1000) → pannierlaw10_Fair.l0 k l (i : Int) = some (fairB l) := by
  intro d
  induction d with
  | zero =>
    intro i k hi hk hall
    obtain ⟨k, rfl⟩ : ∃ m, k = m + 1 := ⟨k - 1, by omega⟩
    rw [pannierlaw10_Fair.l0, if_neg (by omega)]
    unfold fairB
    rw [List.take_of_length_le (by omega)] at hall
    rw [decide_eq_true hall, Bool.true_and]
    congr 1
    rw [decide_eq_decide]; omega
  | succ d ih =>
    intro i k hi hk hall
    obtain ⟨k, rfl⟩ : ∃ m, k = m + 1 := ⟨k - 1, by omega⟩
    have hlt : i < l.length := by omega
    rw [pannierlaw10_Fair.l0, if_pos (by omega), if_pos (by omega), rdV hlt]
    by_cases hs : ((l[i].f2.size : Nat) : Int) > 1000
    · rw [if_pos hs]
      have hf : fairB l = false := by
        unfold fairB
        rw [decide_eq_false, Bool.false_and]
        intro hh
        have := hh l[i] (List.getElem_mem hlt)
        omega
      rw [hf]
    · rw [if_neg hs, wrap_next hlt (by omega)]
      refine ih (i + 1) k (by omega) (by omega) (fun x hx => ?_)
      rw [List.take_succ_eq_append_getElem hlt, List.mem_append] at hx
      rcases hx with hx | hx
      · exact hall x hx
      · simp only [List.mem_singleton] at hx; subst hx; omega
theorem fair_eq (l : List S23) (k : Nat) (hl : l.length ≤ 4398046511104) (hk : l.length < k) : pannierlaw10_Fair.f k l = some (fairB l) := by
  have := fair_loop l hl (by simp) l.length 0 k (by omega) hk (by simp)
  exact this
theorem keepv_same (a b : Int) (s : ByteArray) (a' b' : Int) (s' : ByteArray) : pannierkeep_Value.f a b s a' b' s' = some (decide (a = a') && decide (b = b') && (s.toList == s'.toList)) := by
  unfold pannierkeep_Value.f
  by_cases h1 : a = a' <;> by_cases h2 : b = b' <;> simp [h1, h2]
theorem keepv_self (a b : Int) (s : ByteArray) : pannierkeep_Value.f a b s a b s = some true := by rw [keepv_same]; simp
end Go.Proofs.YtmdmpafdpgdpoaaDoor.P

namespace Go.Proofs.YtmdmpafdpgdpoaaDoor.P
open Go.RowKit Go.Proofs.YtmdmpafdpgdpoaaDoorW.PrintWords Go.Proofs.YtmdmpafdpgdpoaaDoorW.PrintLast Go.Proofs.YtmdmpafdpgdpoaaDoorW.PrintMore
open M (fit I64 u64w dig itoaF)
set_option linter.unusedVariables false
set_option linter.unusedSimpArgs false
def noB : ByteArray := ⟨#[]⟩
theorem noB_list : noB.toList = [] := by rw [ByteArray.toList_eq]; rfl
def goodB (k n : Int) (s : ByteArray) : Bool := (value_Good.f k n s).getD false
theorem vgood_eq (k n : Int) (s : ByteArray) : value_Good.f k n s = some (goodB k n s) := by
  unfold goodB value_Good.f
  repeat' split
  all_goals rfl
theorem vfail_eq {n : Int} (h0 : 1 ≤ n) (h1 : n ≤ 8) : value_Fail.f n = some (4, n, noB) := by
  unfold value_Fail.f; rw [if_neg (by omega), if_neg (by omega)]; rfl
theorem vof_eq (s : ByteArray) : value_Of.f s = some (if s.size ≤ 200 then (3, 0, s) else (4, 7, noB)) := by
  unfold value_Of.f
  by_cases h : s.size ≤ 200
  · rw [if_neg (by omega), if_pos h]
  · rw [if_pos (by omega), if_neg h, vfail_eq (by omega) (by omega)]; rfl
theorem bytes_eq {s t : ByteArray} (h : s.toList = t.toList) : s = t := by
  rw [ByteArray.toList_eq, ByteArray.toList_eq] at h
  exact ByteArray.ext (Array.toList_inj.1 h)
theorem good_cases {k n : Int} {s : ByteArray} (h : goodB k n s = true) : (k = 0 ∧ n = 0 ∧ s = noB) ∨ (k = 1 ∧ (n = 0 ∨ n = 1) ∧ s = noB) ∨ (k = 2 ∧ s = noB) ∨ (k = 3 ∧ n = 0 ∧ s.size ≤ 200) ∨ (k = 4 ∧ 1 ≤ n ∧ n ≤ 8 ∧ s = noB) := by
  have hb : (s.toList == ([] : List UInt8)) = true → s = noB := fun h => bytes_eq (by rw [noB_list]; simpa using h)
  have hg := vgood_eq k n s
  rw [h] at hg
  unfold value_Good.f at hg
  split at hg
  · rename_i e; subst e
    split at hg
    · rename_i e; exact .inl ⟨rfl, e, hb (by simpa using hg)⟩
    · simp at hg
  · split at hg
    · rename_i e; subst e
      split at hg
      · rename_i e; exact .inr (.inl ⟨rfl, .inl e, hb (by simpa using hg)⟩)
      · split at hg
        · rename_i e; exact .inr (.inl ⟨rfl, .inr e, hb (by simpa using hg)⟩)
        · simp at hg
    · split at hg
      · rename_i e; exact .inr (.inr (.inl ⟨e, hb (by simpa using hg)⟩))
      · split at hg
        · rename_i e
          split at hg
          · rename_i e'; simp at hg; exact .inr (.inr (.inr (.inl ⟨e, e', by omega⟩)))
          · simp at hg
        · split at hg
          · rename_i e
            split at hg
            · split at hg
              · rename_i e1 e2; exact .inr (.inr (.inr (.inr ⟨e, e1, e2, hb (by simpa using hg)⟩)))
              · simp at hg
            · simp at hg
          · simp at hg
def faultV (k n : Int) (s : ByteArray) : Int × Int × ByteArray := if goodB k n s = true then (if k = 4 then (k, n, s) else (0, 0, noB)) else (4, 3, noB)
theorem fault_eq (k : Nat) (hk : 1 ≤ k) (t n : Int) (s : ByteArray) : value_fault.f k t n s = some (faultV t n s) := by
  obtain ⟨k, rfl⟩ : ∃ m, k = m + 1 := ⟨k - 1, by omega⟩
  unfold value_fault.f faultV
  by_cases h4 : t = 4
  · rw [if_pos h4, vgood_eq, Option.bind_some, value_fault.j0]
    by_cases hg : goodB t n s = true
    · rw [if_pos hg, if_pos hg, if_pos h4]
    · rw [if_neg hg, if_neg hg, vgood_eq, Option.bind_some, if_neg hg, vfail_eq (by omega) (by omega)]; rfl
  · rw [if_neg h4, value_fault.j0, if_neg (by simp), vgood_eq, Option.bind_some]
    by_cases hg : goodB t n s = true
    · rw [if_pos hg, if_pos hg, if_neg h4]; rfl
    · rw [if_neg hg, if_neg hg, vfail_eq (by omega) (by omega)]; rfl
end Go.Proofs.YtmdmpafdpgdpoaaDoor.P

namespace Go.Proofs.YtmdmpafdpgdpoaaDoor.P
open Go.RowKit Go.Proofs.YtmdmpafdpgdpoaaDoorW.PrintWords Go.Proofs.YtmdmpafdpgdpoaaDoorW.PrintLast Go.Proofs.YtmdmpafdpgdpoaaDoorW.PrintMore
open M (fit I64 u64w dig itoaF)
set_option linter.unusedVariables false
set_option linter.unusedSimpArgs false
def showS (k n : Int) (s : ByteArray) : ByteArray := if goodB k n s = true then (if k = 2 then bs (itoaF n) else if k = 1 then (if n = 1 then ⟨#[84, 82, 85, 69]⟩ else ⟨#[70, 65, 76, 83, 69]⟩) else if k = 4 then nm n.toNat else s) else ⟨#[63]⟩
theorem show_eq (k n : Int) (s : ByteArray) (hn : I64 n) : value_Show.f k n s = some (showS k n s) := by
  unfold value_Show.f showS
  rw [vgood_eq, Option.bind_some]
  by_cases hg : goodB k n s = true
  · rw [if_pos hg, if_pos hg]
    by_cases h2 : k = 2
    · rw [if_pos h2, if_pos h2, dec_one n hn]
    · rw [if_neg h2, if_neg h2]
      by_cases h1 : k = 1
      · rw [if_pos h1, if_pos h1]; split <;> rfl
      · rw [if_neg h1, if_neg h1]
        by_cases h4 : k = 4
        · rw [if_pos h4, if_pos h4]
          have : 0 ≤ n ∧ n < 9 := by rcases good_cases hg with h | h | h | h | h <;> omega
          rw [if_pos this]
        · rw [if_neg h4, if_neg h4]
  · rw [if_neg hg, if_neg hg]
def strV (k n : Int) (s : ByteArray) : ByteArray × Int × Int × ByteArray := if goodB k n s = true ∧ k ≠ 4 then (showS k n s, 0, 0, noB) else (noB, faultV k n s)
theorem fault_none {k n : Int} {s : ByteArray} (h : goodB k n s = true) (h4 : k ≠ 4) : faultV k n s = (0, 0, noB) := by unfold faultV; rw [if_pos h, if_neg h4]
theorem fault_some {k n : Int} {s : ByteArray} (h : ¬ (goodB k n s = true ∧ k ≠ 4)) : (faultV k n s).1 = 4 := by
  unfold faultV
  by_cases hg : goodB k n s = true
  · have h4 : k = 4 := by
      by_cases h4 : k = 4
      · exact h4
      · exact absurd ⟨hg, h4⟩ h
    rw [if_pos hg, if_pos h4, h4]
  · rw [if_neg hg]
theorem str_eq (r : Nat) (hr : 1 ≤ r) (k n : Int) (s : ByteArray) (hn : I64 n) : value_Str.f r k n s = some (strV k n s) := by
  unfold value_Str.f strV
  rw [fault_eq r hr, Option.bind_some]
  by_cases h : goodB k n s = true ∧ k ≠ 4
  · rw [if_pos h, fault_none h.1 h.2, if_pos rfl, show_eq k n s hn, Option.bind_some]; rfl
  · have := fault_some h
    rw [if_neg h, if_neg (by omega)]; rfl
def numV (k n : Int) (s : ByteArray) : Int × Int × Int × ByteArray :=
  if goodB k n s = true ∧ k ≠ 4 then (if k = 3 then (if (M.numParse s.data.toList).2 = true then ((M.numParse s.data.toList).1, 0, 0, noB) else (0, 4, 3, noB)) else (n, 0, 0, noB)) else (0, faultV k n s)
theorem num_eq (r : Nat) (hr : 1 ≤ r) (k n : Int) (s : ByteArray) : value_Num.f r k n s = some (numV k n s) := by
  unfold value_Num.f numV
  rw [fault_eq r hr, Option.bind_some]
  by_cases h : goodB k n s = true ∧ k ≠ 4
  · rw [if_pos h, fault_none h.1 h.2, if_pos rfl]
    by_cases h3 : k = 3
    · have hs : s.size ≤ 200 := by rcases good_cases h.1 with h | h | h | h | h <;> omega
      have hp : num_Parse.f s = some (M.numParse s.data.toList) := by unfold num_Parse.f; rw [if_pos (by omega)]
      rw [if_pos h3, if_pos h3, hp, Option.bind_some]
      by_cases hq : (M.numParse s.data.toList).2 = true
      · rw [if_pos hq, if_pos hq]; rfl
      · rw [if_neg hq, if_neg hq, vfail_eq (by omega) (by omega)]; rfl
    · rw [if_neg h3, if_neg h3]; rfl
  · have := fault_some h
    rw [if_neg h, if_neg (by omega)]
def yesS : List UInt8 := [84, 82, 85, 69]
def noS : List UInt8 := [70, 65, 76, 83, 69]
def flagV (k n : Int) (s : ByteArray) : Bool × Int × Int × ByteArray :=
  if goodB k n s = true ∧ k ≠ 4 then (if k = 3 then (if s.toList = yesS then (true, 0, 0, noB) else if s.toList = noS then (n != 0, 0, 0, noB) else (false, 4, 3, noB)) else (n != 0, 0, 0, noB)) else (false, faultV k n s)
theorem flag_eq (r : Nat) (hr : 1 ≤ r) (k n : Int) (s : ByteArray) : value_Flag.f r k n s = some (flagV k n s) := by
  obtain ⟨r, rfl⟩ : ∃ m, r = m + 1 := ⟨r - 1, by omega⟩
  unfold value_Flag.f flagV yesS noS
  rw [fault_eq _ hr, Option.bind_some]
  by_cases h : goodB k n s = true ∧ k ≠ 4
  · rw [if_pos h, fault_none h.1 h.2, if_pos rfl]
    by_cases h3 : k = 3
    · rw [if_pos h3, if_pos h3]
      by_cases hy : s.toList = ([84, 82, 85, 69] : List UInt8)
      · rw [if_pos hy, show (s.toList == [84, 82, 85, 69]) = true by simpa using hy, value_Flag.j0, if_pos rfl]; rfl
      · rw [if_neg hy, show (s.toList == [84, 82, 85, 69]) = false by simpa using hy, value_Flag.j0, if_neg (by simp), if_pos h3]
        by_cases hz : s.toList = ([70, 65, 76, 83, 69] : List UInt8)
        · rw [if_pos hz, if_pos hz]; rfl
        · rw [if_neg hz, if_neg hz, vfail_eq (by omega) (by omega)]; rfl
    · rw [if_neg h3, if_neg h3, value_Flag.j0, if_neg (by simp), if_neg h3]; rfl
  · have := fault_some h
    rw [if_neg h, if_neg (by omega)]
end Go.Proofs.YtmdmpafdpgdpoaaDoor.P



namespace Go.Proofs.YtmdmpafdpgdpoaaDoor.P
open Go.RowKit Go.Proofs.YtmdmpafdpgdpoaaDoorW.PrintWords Go.Proofs.YtmdmpafdpgdpoaaDoorW.PrintLast Go.Proofs.YtmdmpafdpgdpoaaDoorW.PrintMore
open M (fit I64 u64w)
set_option linter.unusedVariables false
set_option linter.unusedSimpArgs false
theorem add_eq (a b : Int) (ha : I64 a) (hb : I64 b) : num_Add.f a b = some (fit (a + b)) := by
  unfold num_Add.f
  have hc := M.wrap64_in (a + b)
  have h := M.and_neg _ _ (M.bits_in .xor a (wrap64 (a + b))) (M.bits_in .xor b (wrap64 (a + b)))
  rw [M.xor_neg _ _ ha hc, M.xor_neg _ _ hb hc] at h
  have hw : wrap64 (a + b) = (a + b + 9223372036854775808) % 18446744073709551616 - 9223372036854775808 := by unfold wrap64; rfl
  unfold I64 at ha hb
  by_cases h0 : a + b < -9223372036854775808 ∨ 9223372036854775807 < a + b
  · rw [if_pos]
    · rw [M.fit_out (by omega)]
    · apply of_decide_eq_true; rw [h]
      simp only [Bool.and_eq_true, bne_iff_ne, ne_eq, decide_eq_decide]
      omega
  · rw [if_neg]
    · rw [M.fit_in (by omega), M.wrap64_id (by unfold I64; omega)]
    · apply of_decide_eq_false; rw [h]
      simp only [Bool.and_eq_false_iff, bne_eq_false_iff_eq, decide_eq_decide]
      omega
theorem size_eq (a : Int) (ha : I64 a) : num_size.f a = some (a.natAbs : Int) := by
  unfold num_size.f; unfold I64 at ha
  split
  · rw [u64w, u64w]; congr 1; omega
  · rw [u64w]; congr 1; omega
theorem signed_eq (k : Nat) (u : Int) (b : Bool) (h0 : 0 ≤ u) (h1 : u < 18446744073709551616) : num_signed.f (k + 1) u b = some (fit (if b = true then -u else u)) := by
  unfold num_signed.f
  cases b
  · simp only [num_signed.j0, Bool.false_eq_true, if_false]
    by_cases h : u ≤ 9223372036854775807
    · rw [if_pos h, M.fit_in (by omega), M.wrap64_id (by unfold I64; omega)]
    · rw [if_neg h, M.fit_out (by omega)]
  · simp only [num_signed.j0, if_true, decide_eq_true_eq]
    by_cases h : u ≤ 9223372036854775808
    · rw [if_pos h, M.fit_in (by omega), u64w]
      congr 2; unfold wrap64; omega
    · rw [if_neg h, M.fit_out (by omega)]
theorem apart_eq (k : Nat) (a b : Int) : num_apart.f (k + 1) a b = some (decide (a < 0) != decide (b < 0)) := by
  unfold num_apart.f
  by_cases h0 : a < 0 <;> by_cases h1 : b < 0 <;> simp [num_apart.j0, h0, h1]
theorem mul_eq (k : Nat) (a b : Int) (ha : I64 a) (hb : I64 b) : num_Mul.f (k + 1) a b = some (fit (a * b)) := by
  unfold num_Mul.f
  have hm := M.mul_sizes a b
  have hx : a.natAbs * b.natAbs ≤ 9223372036854775808 * 9223372036854775808 := Nat.mul_le_mul (by unfold I64 at ha; omega) (by unfold I64 at hb; omega)
  rw [size_eq a ha, Option.bind_some, size_eq b hb, Option.bind_some]
  unfold bits_Mul64.f
  rw [if_pos (by unfold I64 at ha hb; omega), Option.bind_some]
  rw [show (a.natAbs : Int) * (b.natAbs : Int) = ((a.natAbs * b.natAbs : Nat) : Int) by rw [Int.natCast_mul]]
  generalize a.natAbs * b.natAbs = m at *
  rw [apart_eq, Option.bind_some, signed_eq _ _ _ (by omega) (by omega), Option.bind_some, hm]
  generalize (decide (a < 0) != decide (b < 0)) = c
  by_cases h : (m : Int) / 18446744073709551616 > 0
  · rw [if_pos h, M.fit_out (by split <;> omega)]
  · rw [if_neg h, show (m : Int) % 18446744073709551616 = m by omega]
end Go.Proofs.YtmdmpafdpgdpoaaDoor.P

namespace Go.Proofs.YtmdmpafdpgdpoaaDoor.P
open Go.RowKit Go.Proofs.YtmdmpafdpgdpoaaDoorW.PrintWords Go.Proofs.YtmdmpafdpgdpoaaDoorW.PrintLast Go.Proofs.YtmdmpafdpgdpoaaDoorW.PrintMore
open M (fit I64 u64w)
set_option linter.unusedVariables false
set_option linter.unusedSimpArgs false
theorem tdiv_sizes (a b : Int) : a.tdiv b = if (decide (a < 0) != decide (b < 0)) = true then -((a.natAbs / b.natAbs : Nat) : Int) else ((a.natAbs / b.natAbs : Nat) : Int) := by
  by_cases h0 : a < 0 <;> by_cases h1 : b < 0
  · rw [if_neg (by simp [h0, h1])]
    obtain ⟨x, rfl⟩ : ∃ x : Nat, a = -(x : Int) := ⟨a.natAbs, by omega⟩
    obtain ⟨y, rfl⟩ : ∃ y : Nat, b = -(y : Int) := ⟨b.natAbs, by omega⟩
    rw [Int.neg_tdiv, Int.tdiv_neg, Int.neg_neg, ← Int.ofNat_tdiv]; simp
  · rw [if_pos (by simp [h0, h1])]
    obtain ⟨x, rfl⟩ : ∃ x : Nat, a = -(x : Int) := ⟨a.natAbs, by omega⟩
    obtain ⟨y, rfl⟩ : ∃ y : Nat, b = (y : Int) := ⟨b.natAbs, by omega⟩
    rw [Int.neg_tdiv, ← Int.ofNat_tdiv]; simp
  · rw [if_pos (by simp [h0, h1])]
    obtain ⟨x, rfl⟩ : ∃ x : Nat, a = (x : Int) := ⟨a.natAbs, by omega⟩
    obtain ⟨y, rfl⟩ : ∃ y : Nat, b = -(y : Int) := ⟨b.natAbs, by omega⟩
    rw [Int.tdiv_neg, ← Int.ofNat_tdiv]; simp
  · rw [if_neg (by simp [h0, h1])]
    obtain ⟨x, rfl⟩ : ∃ x : Nat, a = (x : Int) := ⟨a.natAbs, by omega⟩
    obtain ⟨y, rfl⟩ : ∃ y : Nat, b = (y : Int) := ⟨b.natAbs, by omega⟩
    rw [← Int.ofNat_tdiv]; simp
def divS (a b : Int) : Int × Bool := if b = 0 then (0, false) else fit (a.tdiv b)
theorem div_le2 (x y : Nat) (h : 2 ≤ y) : x / y ≤ x / 2 := Nat.div_le_div_left h (by omega)
theorem tdiv_in (a b : Int) (ha : I64 a) (h0 : b ≠ 0) (h : ¬ (a = -9223372036854775808 ∧ b = -1)) : I64 (a.tdiv b) := by
  rw [tdiv_sizes]
  unfold I64 at *
  have hle := Nat.div_le_self a.natAbs b.natAbs
  by_cases h1 : 2 ≤ b.natAbs
  · have h2 := div_le2 a.natAbs b.natAbs h1
    generalize a.natAbs / b.natAbs = q at *
    split <;> omega
  · have hb : b.natAbs = 1 := by omega
    rw [hb, Nat.div_one]
    rcases (by omega : b = 1 ∨ b = -1) with rfl | rfl <;> by_cases h3 : a < 0 <;> simp [h3] <;> omega
theorem div_eq (a b : Int) (ha : I64 a) : num_Div.f a b = some (divS a b) := by
  unfold num_Div.f divS
  by_cases h0 : b = 0
  · rw [if_pos h0, if_pos h0]
  · rw [if_neg h0, if_neg h0]
    by_cases h1 : a = -9223372036854775808
    · rw [if_pos h1]
      by_cases h2 : b = -1
      · subst h1; subst h2; rfl
      · rw [if_neg h2, M.fit_in (tdiv_in a b ha h0 (by omega)), M.wrap64_id (tdiv_in a b ha h0 (by omega))]
    · rw [if_neg h1, M.fit_in (tdiv_in a b ha h0 (by omega)), M.wrap64_id (tdiv_in a b ha h0 (by omega))]
end Go.Proofs.YtmdmpafdpgdpoaaDoor.P

namespace Go.Proofs.YtmdmpafdpgdpoaaDoor.P
open Go.RowKit Go.Proofs.YtmdmpafdpgdpoaaDoorW.PrintWords Go.Proofs.YtmdmpafdpgdpoaaDoorW.PrintLast Go.Proofs.YtmdmpafdpgdpoaaDoorW.PrintMore
open M (fit I64)
set_option linter.unusedVariables false
set_option linter.unusedSimpArgs false
def nV (x : S23) : Int × Int × Int × ByteArray := numV x.f0 x.f1 x.f2
def fV (x : S23) : Bool × Int × Int × ByteArray := flagV x.f0 x.f1 x.f2
def sV (x : S23) : ByteArray × Int × Int × ByteArray := strV x.f0 x.f1 x.f2
theorem fit_in1 (n : Int) : I64 (fit n).1 := by
  unfold M.fit; split
  · rename_i h; exact h
  · show I64 0; unfold I64; omega
theorem numV_in {k n : Int} {s : ByteArray} (hn : I64 n) : I64 (numV k n s).1 := by
  unfold numV
  have h0 : I64 0 := by unfold I64; omega
  split
  · split
    · split
      · rename_i h
        have := M.numParse_ok (l := s.data.toList) (v := (M.numParse s.data.toList).1) (by rw [← h])
        exact ⟨this.2.1, this.2.2⟩
      · exact h0
    · exact hn
  · exact h0
def numsV (st : Int → Int → Int → Int × Bool) : List S23 → Int → Int → Int × Int × Int × ByteArray
  | [], n, _ => (n, 0, 0, noB)
  | v :: r, n, i => if (nV v).2.1 = 0 then (if (st n (nV v).1 i).2 = true then numsV st r (st n (nV v).1 i).1 (i + 1) else (0, 4, 2, noB)) else (0, (nV v).2)
theorem numbers_eq {sto : Int → Int → Int → Option (Int × Bool)} {st : Int → Int → Int → Int × Bool} (hst : ∀ n b i, I64 n → I64 b → sto n b i = some (st n b i) ∧ I64 (st n b i).1) :
    ∀ (l : List S23) (n i : Int), (∀ x ∈ l, I64 x.f1) → I64 n → numbersF sto l n i = some (numsV st l n i) ∧ I64 (numsV st l n i).1
  | [], n, i, _, hn => ⟨rfl, hn⟩
  | v :: r, n, i, hl, hn => by
    have h0 : I64 0 := by unfold I64; omega
    have hv : I64 (nV v).1 := numV_in (hl v (by simp))
    obtain ⟨e1, e2⟩ := hst n (nV v).1 i hn hv
    unfold numbersF numsV
    rw [num_eq 1 (by omega)]
    simp only [Option.bind_some]
    by_cases hk : (nV v).2.1 = 0
    · rw [if_pos hk]
      have hk' : (numV v.f0 v.f1 v.f2).2.1 = 0 := hk
      rw [if_pos hk']
      have e1' : sto n (numV v.f0 v.f1 v.f2).1 i = some (st n (nV v).1 i) := e1
      rw [e1', Option.bind_some]
      by_cases hb : (st n (nV v).1 i).2 = true
      · rw [if_pos hb, if_pos hb]
        exact numbers_eq hst r _ _ (fun x hx => hl x (by simp [hx])) e2
      · rw [if_neg hb, if_neg hb, vfail_eq (by omega) (by omega)]
        exact ⟨rfl, h0⟩
    · rw [if_neg hk]
      have hk' : ¬ (numV v.f0 v.f1 v.f2).2.1 = 0 := hk
      rw [if_neg hk']
      exact ⟨rfl, h0⟩
def addSt : Int → Int → Int → Int × Bool := fun a b _ => fit (a + b)
def mulSt : Int → Int → Int → Int × Bool := fun a b _ => fit (a * b)
def bestS (bt : Int → Int → Bool) : Int → Int → Int → Int × Bool := fun a b i => if i = 0 then (b, true) else if bt b a = true then (b, true) else (a, true)
theorem add_st (n b i : Int) (hn : I64 n) (hb : I64 b) : (fun a b (_ : Int) => num_Add.f a b) n b i = some (addSt n b i) ∧ I64 (addSt n b i).1 := ⟨add_eq n b hn hb, fit_in1 _⟩
theorem mul_st (n b i : Int) (hn : I64 n) (hb : I64 b) : (fun a b (_ : Int) => num_Mul.f 100 a b) n b i = some (mulSt n b i) ∧ I64 (mulSt n b i).1 := ⟨mul_eq 99 n b hn hb, fit_in1 _⟩
theorem best_st (bt : Int → Int → Bool) (n b i : Int) (hn : I64 n) (hb : I64 b) : bestSt bt n b i = some (bestS bt n b i) ∧ I64 (bestS bt n b i).1 := by
  unfold bestSt bestS
  split
  · exact ⟨rfl, hb⟩
  · split
    · exact ⟨rfl, hb⟩
    · exact ⟨rfl, hn⟩
def toldV (t : Int × Int × Int × ByteArray) : Int × Int × ByteArray := if t.2.1 = 0 then (2, t.1, noB) else t.2
theorem told_eq (t : Int × Int × Int × ByteArray) : fold_told.f t.1 t.2.1 t.2.2.1 t.2.2.2 = some (toldV t) := by
  unfold fold_told.f toldV
  split
  · rfl
  · rfl
def meanV (m : List S23) : Int × Int × ByteArray :=
  if (numsV addSt m 0 0).2.1 = 0 then (if m.length = 0 then (4, 1, noB) else (2, (divS (numsV addSt m 0 0).1 (m.length : Int)).1, noB)) else (numsV addSt m 0 0).2
theorem mean_eq (m : List S23) (hm : ∀ x ∈ m, I64 x.f1) : fold_mean.f m = some (meanV m) := by
  obtain ⟨h1, h2⟩ := numbers_eq add_st m 0 0 hm (by unfold I64; omega)
  have h1' : fold_sum.f m = some (numsV addSt m 0 0) := h1
  unfold fold_mean.f meanV
  rw [h1', Option.bind_some]
  split
  · by_cases h0 : m.length = 0
    · rw [if_pos (by omega), if_pos h0, vfail_eq (by omega) (by omega)]; rfl
    · rw [if_neg (by omega), if_neg h0, div_eq _ _ h2]; rfl
  · rfl
def flagsV (all : Bool) : List S23 → Bool → Int × Int × ByteArray
  | [], is => if is = true then (1, 1, noB) else (1, 0, noB)
  | v :: r, is => if (fV v).2.1 = 0 then flagsV all r (if all = true then is && (fV v).1 else is || (fV v).1) else (fV v).2
theorem flags_loop (all : Bool) (l : List S23) (hl : l.length ≤ 4398046511104) : ∀ (d i k : Nat) (is : Bool), i + d = l.length → d + 1 < k → fold_flags.l0 k all is l (l.length : Int) (i : Int) = some (flagsV all (l.drop i) is) := by
  intro d
  induction d with
  | zero =>
    intro i k is hi hk
    obtain ⟨k, rfl⟩ : ∃ m, k = m + 1 := ⟨k - 1, by omega⟩
    rw [fold_flags.l0, if_neg (by omega), List.drop_of_length_le (by omega)]
    unfold fold_truth.f flagsV
    cases is <;> rfl
  | succ d ih =>
    intro i k is hi hk
    obtain ⟨k, rfl⟩ : ∃ m, k = m + 1 := ⟨k - 1, by omega⟩
    have hlt : i < l.length := by omega
    have hd : l.drop i = l[i] :: l.drop (i + 1) := List.drop_eq_getElem_cons hlt
    rw [fold_flags.l0, if_pos (by omega), if_pos (by omega), if_pos (by omega), rdV hlt, wrap_next hlt (by omega), hd, flag_eq k (by omega), Option.bind_some]
    unfold flagsV
    by_cases hk2 : (fV l[i]).2.1 = 0
    · have hk' : (flagV l[i].f0 l[i].f1 l[i].f2).2.1 = 0 := hk2
      rw [if_pos hk', if_pos hk2]
      have hn := fun is => ih (i + 1) k is (by omega) (by omega)
      cases all <;> cases is <;> simp only [Bool.false_eq_true, if_false, if_true, Bool.true_and, Bool.false_and, Bool.true_or, Bool.false_or] <;> exact hn _
    · have hk' : ¬ (flagV l[i].f0 l[i].f1 l[i].f2).2.1 = 0 := hk2
      rw [if_neg hk', if_neg hk2]; rfl
theorem flags_eq (all : Bool) (l : List S23) (hl : l.length ≤ 4398046511104) (k : Nat) (hk : l.length + 1 < k) : fold_flags.f k l all = some (flagsV all l all) := by
  have := flags_loop all l hl l.length 0 k all (by omega) hk
  exact this
def joinS (a b : ByteArray) : Int × Int × ByteArray := if a.size ≤ 200 ∧ b.size ≤ 200 ∧ a.size + b.size ≤ 200 then (3, 0, a ++ b) else (4, 7, noB)
theorem long_eq (k : Nat) (hk : 4 ≤ k) (a b : ByteArray) : text_long.f k [a, b] = some (decide (a.size > 200) || decide (b.size > 200)) := by
  obtain ⟨k, rfl⟩ : ∃ m, k = m + 3 := ⟨k - 3, by omega⟩
  have w1 : wrap64 ((0 : Int) + 1) = 1 := by unfold wrap64; decide
  have w2 : wrap64 ((1 : Int) + 1) = 2 := by unfold wrap64; decide
  unfold text_long.f
  have r0 : rdOf ByteArray.empty [a, b] 0 = a := rfl
  have r1 : rdOf ByteArray.empty [a, b] 1 = b := rfl
  have hlen : (([a, b] : List ByteArray).length : Int) = 2 := rfl
  rw [hlen]
  simp only [text_long.l0, hlen]
  rw [if_pos (by omega), if_pos (by omega), if_pos (by omega), r0, w1]
  by_cases ha : a.size > 200
  · rw [if_pos (by omega), decide_eq_true ha, Bool.true_or]
  · rw [if_neg (by omega), if_pos (by omega), if_pos (by omega), if_pos (by omega), r1, w2]
    by_cases hb : b.size > 200
    · rw [if_pos (by omega), decide_eq_true hb, Bool.or_true]
    · rw [if_neg (by omega), if_neg (by omega), decide_eq_false ha, decide_eq_false hb]; rfl
theorem join_eq (k : Nat) (hk : 4 ≤ k) (a b : ByteArray) : text_Join.f k a b = some (joinS a b) := by
  unfold text_Join.f joinS
  rw [long_eq k hk, Option.bind_some]
  by_cases ha : a.size > 200
  · rw [if_pos (by rw [decide_eq_true ha]; rfl), vfail_eq (by omega) (by omega), if_neg (by omega)]; rfl
  · by_cases hb : b.size > 200
    · rw [if_pos (by rw [decide_eq_true hb, Bool.or_true]), vfail_eq (by omega) (by omega), if_neg (by omega)]; rfl
    · rw [if_neg (by rw [decide_eq_false ha, decide_eq_false hb]; decide), if_pos (by omega), vof_eq, Option.bind_some, ByteArray.size_append]
      by_cases hs : a.size + b.size ≤ 200
      · rw [if_pos hs, if_pos ⟨by omega, by omega, hs⟩]
      · rw [if_neg hs, if_neg (fun h => hs h.2.2)]
def joinedV : List S23 → Int × Int × ByteArray → Int × Int × ByteArray
  | [], st => st
  | v :: r, st => if (sV v).2.1 = 0 then (if (joinS st.2.2 (sV v).1).1 = 4 then joinS st.2.2 (sV v).1 else joinedV r (joinS st.2.2 (sV v).1)) else (sV v).2
theorem joined_loop (l : List S23) (hl : l.length ≤ 4398046511104) (hw : ∀ x ∈ l, I64 x.f1) : ∀ (d i k : Nat) (a b : Int) (s : ByteArray), i + d = l.length → d + 4 < k → fold_joined.l0 k l (l.length : Int) (i : Int) a b s = some (joinedV (l.drop i) (a, b, s)) := by
  intro d
  induction d with
  | zero =>
    intro i k a b s hi hk
    obtain ⟨k, rfl⟩ : ∃ m, k = m + 1 := ⟨k - 1, by omega⟩
    rw [fold_joined.l0, if_neg (by omega), List.drop_of_length_le (by omega)]; rfl
  | succ d ih =>
    intro i k a b s hi hk
    obtain ⟨k, rfl⟩ : ∃ m, k = m + 1 := ⟨k - 1, by omega⟩
    have hlt : i < l.length := by omega
    have hd : l.drop i = l[i] :: l.drop (i + 1) := List.drop_eq_getElem_cons hlt
    rw [fold_joined.l0, if_pos (by omega), if_pos (by omega), if_pos (by omega), rdV hlt, wrap_next hlt (by omega), hd, str_eq k (by omega) _ _ _ (hw _ (List.getElem_mem hlt)), Option.bind_some]
    unfold joinedV
    by_cases hk2 : (sV l[i]).2.1 = 0
    · have hk' : (strV l[i].f0 l[i].f1 l[i].f2).2.1 = 0 := hk2
      rw [if_pos hk', if_pos hk2, join_eq k (by omega), Option.bind_some]
      have hj : joinS s (strV l[i].f0 l[i].f1 l[i].f2).1 = joinS s (sV l[i]).1 := rfl
      rw [hj]
      by_cases h4 : (joinS s (sV l[i]).1).1 = 4
      · rw [if_pos h4, if_pos h4]
      · rw [if_neg h4, if_neg h4]
        exact ih (i + 1) k _ _ _ (by omega) (by omega)
    · have hk' : ¬ (strV l[i].f0 l[i].f1 l[i].f2).2.1 = 0 := hk2
      rw [if_neg hk', if_neg hk2]; rfl
theorem joined_eq (l : List S23) (hl : l.length ≤ 4398046511104) (hw : ∀ x ∈ l, I64 x.f1) (k : Nat) (hk : l.length + 4 < k) : fold_joined.f k l = some (joinedV l (3, 0, noB)) := by
  have := joined_loop l hl hw l.length 0 k 3 0 noB (by omega) hk
  unfold fold_joined.f
  rw [vof_eq, Option.bind_some, if_pos (by decide)]
  exact this
def bestV (bt : Int → Int → Bool) (m : List S23) : Int × Int × ByteArray := if m.length = 0 then (4, 8, noB) else toldV (numsV (bestS bt) m 0 0)
theorem best_eq (bt : Int → Int → Bool) (m : List S23) (hm : ∀ x ∈ m, I64 x.f1) : bestF bt m = some (bestV bt m) := by
  obtain ⟨h1, h2⟩ := numbers_eq (best_st bt) m 0 0 hm (by unfold I64; omega)
  unfold bestF bestV
  split
  · exact vfail_eq (by omega) (by omega)
  · rw [h1, Option.bind_some, told_eq]
def lessB : Int → Int → Bool := fun a b => decide (a < b)
def moreB : Int → Int → Bool := fun a b => decide (b < a)
def withT (r : Int × Int × ByteArray) : Int × Int × ByteArray × Bool := (r.1, r.2.1, r.2.2, true)
def ofV (name : List UInt8) (m : List S23) : Int × Int × ByteArray × Bool :=
  if name = [83, 85, 77] then withT (toldV (numsV addSt m 0 0)) else
  if name = [80, 82, 79, 68, 85, 67, 84] then withT (toldV (numsV mulSt m 1 0)) else
  if name = [77, 73, 78] then withT (bestV lessB m) else
  if name = [77, 65, 88] then withT (bestV moreB m) else
  if name = [65, 86, 71] then withT (meanV m) else
  if name = [65, 78, 68] then withT (flagsV true m true) else
  if name = [79, 82] then withT (flagsV false m false) else
  if name = [74, 79, 73, 78] then withT (joinedV m (3, 0, noB)) else
  if name = [67, 79, 85, 78, 84] then (2, ((intsV m).length : Int), noB, true) else
  if name = [67, 79, 85, 78, 84, 65] then (2, (m.length : Int), noB, true) else
  (0, 0, noB, false)
theorem ite_some {α : Type} {c : Prop} [Decidable c] {x y : Option α} {a b : α} (h1 : x = some a) (h2 : y = some b) : (if c then x else y) = some (if c then a else b) := by
  split
  · exact h1
  · exact h2
theorem ofF_eq (name : List UInt8) (m : List S23) (hl : m.length ≤ 4398046511104) (hm : ∀ x ∈ m, I64 x.f1) : ofF name m = some (ofV name m) := by
  obtain ⟨a1, a2⟩ := numbers_eq add_st m 0 0 hm (by unfold I64; omega)
  obtain ⟨m1, m2⟩ := numbers_eq mul_st m 1 0 hm (by unfold I64; omega)
  have a1' : fold_sum.f m = some (numsV addSt m 0 0) := a1
  unfold ofF ofV
  rw [a1', Option.bind_some, told_eq, m1, Option.bind_some, told_eq, show bestF (fun a b => decide (a < b)) m = some (bestV lessB m) from best_eq lessB m hm, show bestF (fun a b => decide (b < a)) m = some (bestV moreB m) from best_eq moreB m hm, mean_eq m hm, flags_eq true m hl _ (by omega), flags_eq false m hl _ (by omega), joined_eq m hl hm _ (by omega)]
  exact ite_some rfl (ite_some rfl (ite_some rfl (ite_some rfl (ite_some rfl (ite_some rfl (ite_some rfl (ite_some rfl (ite_some rfl (ite_some rfl rfl)))))))))
theorem full_all {l : List S23} {Q : S23 → Prop} (h : ∀ x ∈ l, Q x) : ∀ x ∈ fullV l, Q x := fun x hx => h x (List.mem_filter.1 hx).1
theorem of_eq (a0 : ByteArray) (l : List S23) (hl : l.length < 4398046511104) (hw : ∀ x ∈ l, I64 x.f1) : fold_Of.f a0 l = some (ofV a0.toList (fullV l)) := by
  unfold fold_Of.f
  rw [if_pos hl]
  exact ofF_eq _ _ (by have := full_le l; omega) (full_all hw)
end Go.Proofs.YtmdmpafdpgdpoaaDoor.P

namespace Go.Proofs.YtmdmpafdpgdpoaaDoor.P
open Go.RowKit Go.Proofs.YtmdmpafdpgdpoaaDoorW.PrintWords Go.Proofs.YtmdmpafdpgdpoaaDoorW.PrintLast Go.Proofs.YtmdmpafdpgdpoaaDoorW.PrintMore
open M (fit I64)
set_option linter.unusedVariables false
set_option linter.unusedSimpArgs false
theorem keepmod10 (a n : Int) (h0 : 1 ≤ n) (h1 : n ≤ 1000000000000000) : pannierkeep_Mod.f a n = some (a % n) := by
  unfold pannierkeep_Mod.f
  have hn : Int.natAbs n = n.toNat := by omega
  have hr : -n < Int.tmod a n ∧ Int.tmod a n < n := ⟨Int.lt_tmod_of_pos a (by omega), Int.tmod_lt_of_pos a (by omega)⟩
  rw [if_neg (by omega), if_neg (by omega), M.wrap64_id (by unfold I64; omega), Int.tmod_eq_emod_of_nonneg (by omega)]
  congr 1
  rw [Int.add_emod_right]
  have h2 := Int.tdiv_mul_add_tmod a n
  have h3 : a % n = (Int.tdiv a n * n + Int.tmod a n) % n := by rw [h2]
  rw [h3, Int.add_comm, Int.add_mul_emod_self_right]
theorem FoldEmpty_pure (a0 : ByteArray) (l : List S23) (a2 : Int) (h0 : a0.size ≤ 140737488351232) (hl : l.length * 32 ≤ 140737488351232) (hw : ∀ x ∈ l, (Lit.int .i64 x.f0).wf = true ∧ (Lit.int .i64 x.f1).wf = true) (h2 : (Lit.int .i64 a2).wf = true) : ∃ k, pannierlaw10_FoldEmpty.f k a0 l a2 = some true := by
  have hw' : ∀ x ∈ l, I64 x.f1 := fun x hx => M.i64wf (hw x hx).2
  have hl' : l.length ≤ 4398046510976 := by omega
  by_cases hbig : l.length ≤ 500
  · have hj : ∀ q, pannierlaw10_FoldEmpty.j0 (l.length + 1 + 1) a0 l a2 q = some true := by
      intro q
      rw [pannierlaw10_FoldEmpty.j0]
      cases q
      · have hm := keepmod10 a2 ((l.length : Int) + 1) (by omega) (by omega)
        have r0 := Int.emod_nonneg a2 (b := (l.length : Int) + 1) (by omega)
        have r1 := Int.emod_lt_of_pos a2 (b := (l.length : Int) + 1) (by omega)
        rw [if_neg (by decide), M.wrap64_id (by unfold I64; omega), hm, Option.bind_some, Option.bind_some, if_pos (by omega), if_pos (by omega)]
        generalize a2 % ((l.length : Int) + 1) = t at *
        obtain ⟨n, rfl⟩ := Int.eq_ofNat_of_zero_le r0
        simp only [Option.bind_some, Int.toNat_natCast, List.nil_append, List.length_nil, Nat.zero_add]
        have ht : (l.take n).length = n := by rw [List.length_take]; omega
        rw [if_pos (by rw [ht]; omega)]
        rw [if_pos (by rw [ht]; simp; omega), if_pos (by rw [List.length_append, List.length_drop, ht]; simp; omega), if_pos (by omega)]
        have hf : fullV (l.take n ++ [(⟨0, 0, ⟨#[]⟩⟩ : S23)] ++ l.drop n) = fullV l := by
          unfold fullV
          rw [List.filter_append, List.filter_append]
          conv => rhs; rw [← List.take_append_drop n l, List.filter_append]
          simp
        rw [of_eq a0 l (by omega) hw', Option.bind_some, of_eq a0 _ (by rw [List.length_append, List.length_append, ht, List.length_drop]; simp; omega) (by
          intro x hx
          simp only [List.mem_append, List.mem_singleton] at hx
          rcases hx with (hx | rfl) | hx
          · exact hw' x (List.mem_of_mem_take hx)
          · show I64 0; unfold I64; omega
          · exact hw' x (List.mem_of_mem_drop hx)), Option.bind_some, hf, keepv_self, Option.bind_some, if_pos rfl, if_pos (by simp), wakes10]
        rfl
      · rw [if_pos rfl, wakes10]; rfl
    refine ⟨l.length + 1 + 1, ?_⟩
    unfold pannierlaw10_FoldEmpty.f
    rw [fair_eq l _ (by omega) (by omega), Option.bind_some, hj, hj, ite_self]
  · refine ⟨l.length + 1 + 1, ?_⟩
    unfold pannierlaw10_FoldEmpty.f
    have hf : fairB l = false := by unfold fairB; rw [decide_eq_false (p := l.length ≤ 500) hbig, Bool.and_false]
    rw [fair_eq l _ (by omega) (by omega), Option.bind_some, hf, if_neg (by decide), pannierlaw10_FoldEmpty.j0, if_pos rfl, wakes10]; rfl
end Go.Proofs.YtmdmpafdpgdpoaaDoor.P
