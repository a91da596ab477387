/- Contracts of the functions that the law reaches, each with the plain function that it comes to, and plain facts about these. -/
import Derived.Laws.Bits64
import Derived.Laws.Bits64b
import Derived.Test.YtmdmpafdpgdpoaaDoorBFu1
import Derived.Test.YtmdmpafdpgdpoaaDoorBFu4
namespace Go.Proofs.YtmdmpafdpgdpoaaDoor.P
open Go.RowKit Go.Proofs.YtmdmpafdpgdpoaaDoorW.PrintWords Go.Proofs.YtmdmpafdpgdpoaaDoorW.PrintLast Go.Proofs.YtmdmpafdpgdpoaaDoorW.PrintMore
open M (fit I64 u64w)
set_option linter.unusedVariables false
set_option linter.unusedSimpArgs false
theorem add_eq (a b : Int) (ha : I64 a) (hb : I64 b) : num_Add.f a b = some (fit (a + b)) := by
  unfold num_Add.f
  have hc := M.wrap64_in (a + b)
  have h := M.and_neg _ _ (M.bits_in .xor a (wrap64 (a + b))) (M.bits_in .xor b (wrap64 (a + b)))
  rw [M.xor_neg _ _ ha hc, M.xor_neg _ _ hb hc] at h
  have hw : wrap64 (a + b) = (a + b + 9223372036854775808) % 18446744073709551616 - 9223372036854775808 := by unfold wrap64; rfl
  unfold I64 at ha hb
  by_cases h0 : a + b < -9223372036854775808 ∨ 9223372036854775807 < a + b
  · rw [if_pos]
    · rw [M.fit_out (by omega)]
    · apply of_decide_eq_true; rw [h]
      simp only [Bool.and_eq_true, bne_iff_ne, ne_eq, decide_eq_decide]
      omega
  · rw [if_neg]
    · rw [M.fit_in (by omega), M.wrap64_id (by unfold I64; omega)]
    · apply of_decide_eq_false; rw [h]
      simp only [Bool.and_eq_false_iff, bne_eq_false_iff_eq, decide_eq_decide]
      omega
theorem size_eq (a : Int) (ha : I64 a) : num_size.f a = some (a.natAbs : Int) := by
  unfold num_size.f; unfold I64 at ha
  split
  · rw [u64w, u64w]; congr 1; omega
  · rw [u64w]; congr 1; omega
theorem signed_eq (k : Nat) (u : Int) (b : Bool) (h0 : 0 ≤ u) (h1 : u < 18446744073709551616) : num_signed.f (k + 1) u b = some (fit (if b = true then -u else u)) := by
  unfold num_signed.f
  cases b
  · simp only [num_signed.j0, Bool.false_eq_true, if_false]
    by_cases h : u ≤ 9223372036854775807
    · rw [if_pos h, M.fit_in (by omega), M.wrap64_id (by unfold I64; omega)]
    · rw [if_neg h, M.fit_out (by omega)]
  · simp only [num_signed.j0, if_true, decide_eq_true_eq]
    by_cases h : u ≤ 9223372036854775808
    · rw [if_pos h, M.fit_in (by omega), u64w]
      congr 2; unfold wrap64; omega
    · rw [if_neg h, M.fit_out (by omega)]
theorem apart_eq (k : Nat) (a b : Int) : num_apart.f (k + 1) a b = some (decide (a < 0) != decide (b < 0)) := by
  unfold num_apart.f
  by_cases h0 : a < 0 <;> by_cases h1 : b < 0 <;> simp [num_apart.j0, h0, h1]
theorem mul_eq (k : Nat) (a b : Int) (ha : I64 a) (hb : I64 b) : num_Mul.f (k + 1) a b = some (fit (a * b)) := by
  unfold num_Mul.f
  have hm := M.mul_sizes a b
  have hx : a.natAbs * b.natAbs ≤ 9223372036854775808 * 9223372036854775808 := Nat.mul_le_mul (by unfold I64 at ha; omega) (by unfold I64 at hb; omega)
  rw [size_eq a ha, Option.bind_some, size_eq b hb, Option.bind_some]
  unfold bits_Mul64.f
  rw [if_pos (by unfold I64 at ha hb; omega), Option.bind_some]
  rw [show (a.natAbs : Int) * (b.natAbs : Int) = ((a.natAbs * b.natAbs : Nat) : Int) by rw [Int.natCast_mul]]
  generalize a.natAbs * b.natAbs = m at *
  rw [apart_eq, Option.bind_some, signed_eq _ _ _ (by omega) (by omega), Option.bind_some, hm]
  generalize (decide (a < 0) != decide (b < 0)) = c
  by_cases h : (m : Int) / 18446744073709551616 > 0
  · rw [if_pos h, M.fit_out (by split <;> omega)]
  · rw [if_neg h, show (m : Int) % 18446744073709551616 = m by omega]
end Go.Proofs.YtmdmpafdpgdpoaaDoor.P

namespace Go.Proofs.YtmdmpafdpgdpoaaDoor.P
open Go.RowKit Go.Proofs.YtmdmpafdpgdpoaaDoorW.PrintWords Go.Proofs.YtmdmpafdpgdpoaaDoorW.PrintLast Go.Proofs.YtmdmpafdpgdpoaaDoorW.PrintMore
open M (fit I64 u64w)
set_option linter.unusedVariables false
set_option linter.unusedSimpArgs false
theorem tdiv_sizes (a b : Int) : a.tdiv b = if (decide (a < 0) != decide (b < 0)) = true then -((a.natAbs / b.natAbs : Nat) : Int) else ((a.natAbs / b.natAbs : Nat) : Int) := by
  by_cases h0 : a < 0 <;> by_cases h1 : b < 0
  · rw [if_neg (by simp [h0, h1])]
    obtain ⟨x, rfl⟩ : ∃ x : Nat, a = -(x : Int) := ⟨a.natAbs, by omega⟩
    obtain ⟨y, rfl⟩ : ∃ y : Nat, b = -(y : Int) := ⟨b.natAbs, by omega⟩
    rw [Int.neg_tdiv, Int.tdiv_neg, Int.neg_neg, ← Int.ofNat_tdiv]; simp
  · rw [if_pos (by simp [h0, h1])]
    obtain ⟨x, rfl⟩ : ∃ x : Nat, a = -(x : Int) := ⟨a.natAbs, by omega⟩
    obtain ⟨y, rfl⟩ : ∃ y : Nat, b = (y : Int) := ⟨b.natAbs, by omega⟩
    rw [Int.neg_tdiv, ← Int.ofNat_tdiv]; simp
  · rw [if_pos (by simp [h0, h1])]
    obtain ⟨x, rfl⟩ : ∃ x : Nat, a = (x : Int) := ⟨a.natAbs, by omega⟩
    obtain ⟨y, rfl⟩ : ∃ y : Nat, b = -(y : Int) := ⟨b.natAbs, by omega⟩
    rw [Int.tdiv_neg, ← Int.ofNat_tdiv]; simp
  · rw [if_neg (by simp [h0, h1])]
    obtain ⟨x, rfl⟩ : ∃ x : Nat, a = (x : Int) := ⟨a.natAbs, by omega⟩
    obtain ⟨y, rfl⟩ : ∃ y : Nat, b = (y : Int) := ⟨b.natAbs, by omega⟩
    rw [← Int.ofNat_tdiv]; simp
def divS (a b : Int) : Int × Bool := if b = 0 then (0, false) else fit (a.tdiv b)
theorem div_le2 (x y : Nat) (h : 2 ≤ y) : x / y ≤ x / 2 := Nat.div_le_div_left h (by omega)
theorem tdiv_in (a b : Int) (ha : I64 a) (h0 : b ≠ 0) (h : ¬ (a = -9223372036854775808 ∧ b = -1)) : I64 (a.tdiv b) := by
  rw [tdiv_sizes]
  unfold I64 at *
  have hle := Nat.div_le_self a.natAbs b.natAbs
  by_cases h1 : 2 ≤ b.natAbs
  · have h2 := div_le2 a.natAbs b.natAbs h1
    generalize a.natAbs / b.natAbs = q at *
    split <;> omega
  · have hb : b.natAbs = 1 := by omega
    rw [hb, Nat.div_one]
    rcases (by omega : b = 1 ∨ b = -1) with rfl | rfl <;> by_cases h3 : a < 0 <;> simp [h3] <;> omega
theorem div_eq (a b : Int) (ha : I64 a) : num_Div.f a b = some (divS a b) := by
  unfold num_Div.f divS
  by_cases h0 : b = 0
  · rw [if_pos h0, if_pos h0]
  · rw [if_neg h0, if_neg h0]
    by_cases h1 : a = -9223372036854775808
    · rw [if_pos h1]
      by_cases h2 : b = -1
      · subst h1; subst h2; rfl
      · rw [if_neg h2, M.fit_in (tdiv_in a b ha h0 (by omega)), M.wrap64_id (tdiv_in a b ha h0 (by omega))]
    · rw [if_neg h1, M.fit_in (tdiv_in a b ha h0 (by omega)), M.wrap64_id (tdiv_in a b ha h0 (by omega))]
end Go.Proofs.YtmdmpafdpgdpoaaDoor.P

namespace Go.Proofs.YtmdmpafdpgdpoaaDoor.P
open Go.RowKit Go.Proofs.YtmdmpafdpgdpoaaDoorW.PrintWords Go.Proofs.YtmdmpafdpgdpoaaDoorW.PrintLast Go.Proofs.YtmdmpafdpgdpoaaDoorW.PrintMore
open M (fit I64)
set_option linter.unusedVariables false
set_option linter.unusedSimpArgs false
def nV (x : S23) : Int × Int × Int × ByteArray := numV x.f0 x.f1 x.f2
def fV (x : S23) : Bool × Int × Int × ByteArray := flagV x.f0 x.f1 x.f2
def sV (x : S23) : ByteArray × Int × Int × ByteArray := strV x.f0 x.f1 x.f2
theorem fit_in1 (n : Int) : I64 (fit n).1 := by
  unfold M.fit; split
  · rename_i h; exact h
  · show I64 0; unfold I64; omega
theorem numV_in {k n : Int} {s : ByteArray} (hn : I64 n) : I64 (numV k n s).1 := by
  unfold numV
  have h0 : I64 0 := by unfold I64; omega
  split
  · split
    · split
      · rename_i h
        have := M.numParse_ok (l := s.data.toList) (v := (M.numParse s.data.toList).1) (by rw [← h])
        exact ⟨this.2.1, this.2.2⟩
      · exact h0
    · exact hn
  · exact h0
def numsV (st : Int → Int → Int → Int × Bool) : List S23 → Int → Int → Int × Int × Int × ByteArray
  | [], n, _ => (n, 0, 0, noB)
  | v :: r, n, i => if (nV v).2.1 = 0 then (if (st n (nV v).1 i).2 = true then numsV st r (st n (nV v).1 i).1 (i + 1) else (0, 4, 2, noB)) else (0, (nV v).2)
theorem numbers_eq {sto : Int → Int → Int → Option (Int × Bool)} {st : Int → Int → Int → Int × Bool} (hst : ∀ n b i, I64 n → I64 b → sto n b i = some (st n b i) ∧ I64 (st n b i).1) :
    ∀ (l : List S23) (n i : Int), (∀ x ∈ l, I64 x.f1) → I64 n → numbersF sto l n i = some (numsV st l n i) ∧ I64 (numsV st l n i).1
  | [], n, i, _, hn => ⟨rfl, hn⟩
  | v :: r, n, i, hl, hn => by
    have h0 : I64 0 := by unfold I64; omega
    have hv : I64 (nV v).1 := numV_in (hl v (by simp))
    obtain ⟨e1, e2⟩ := hst n (nV v).1 i hn hv
    unfold numbersF numsV
    rw [num_eq 1 (by omega)]
    simp only [Option.bind_some]
    by_cases hk : (nV v).2.1 = 0
    · rw [if_pos hk]
      have hk' : (numV v.f0 v.f1 v.f2).2.1 = 0 := hk
      rw [if_pos hk']
      have e1' : sto n (numV v.f0 v.f1 v.f2).1 i = some (st n (nV v).1 i) := e1
      rw [e1', Option.bind_some]
      by_cases hb : (st n (nV v).1 i).2 = true
      · rw [if_pos hb, if_pos hb]
        exact numbers_eq hst r _ _ (fun x hx => hl x (by simp [hx])) e2
      · rw [if_neg hb, if_neg hb, vfail_eq (by omega) (by omega)]
        exact ⟨rfl, h0⟩
    · rw [if_neg hk]
      have hk' : ¬ (numV v.f0 v.f1 v.f2).2.1 = 0 := hk
      rw [if_neg hk']
      exact ⟨rfl, h0⟩
def addSt : Int → Int → Int → Int × Bool := fun a b _ => fit (a + b)
def mulSt : Int → Int → Int → Int × Bool := fun a b _ => fit (a * b)
def bestS (bt : Int → Int → Bool) : Int → Int → Int → Int × Bool := fun a b i => if i = 0 then (b, true) else if bt b a = true then (b, true) else (a, true)
theorem add_st (n b i : Int) (hn : I64 n) (hb : I64 b) : (fun a b (_ : Int) => num_Add.f a b) n b i = some (addSt n b i) ∧ I64 (addSt n b i).1 := ⟨add_eq n b hn hb, fit_in1 _⟩
theorem mul_st (n b i : Int) (hn : I64 n) (hb : I64 b) : (fun a b (_ : Int) => num_Mul.f 100 a b) n b i = some (mulSt n b i) ∧ I64 (mulSt n b i).1 := ⟨mul_eq 99 n b hn hb, fit_in1 _⟩
theorem best_st (bt : Int → Int → Bool) (n b i : Int) (hn : I64 n) (hb : I64 b) : bestSt bt n b i = some (bestS bt n b i) ∧ I64 (bestS bt n b i).1 := by
  unfold bestSt bestS
  split
  · exact ⟨rfl, hb⟩
  · split
    · exact ⟨rfl, hb⟩
    · exact ⟨rfl, hn⟩
def toldV (t : Int × Int × Int × ByteArray) : Int × Int × ByteArray := if t.2.1 = 0 then (2, t.1, noB) else t.2
theorem told_eq (t : Int × Int × Int × ByteArray) : fold_told.f t.1 t.2.1 t.2.2.1 t.2.2.2 = some (toldV t) := by
  unfold fold_told.f toldV
  split
  · rfl
  · rfl
def meanV (m : List S23) : Int × Int × ByteArray :=
  if (numsV addSt m 0 0).2.1 = 0 then (if m.length = 0 then (4, 1, noB) else (2, (divS (numsV addSt m 0 0).1 (m.length : Int)).1, noB)) else (numsV addSt m 0 0).2
theorem mean_eq (m : List S23) (hm : ∀ x ∈ m, I64 x.f1) : fold_mean.f m = some (meanV m) := by
  obtain ⟨h1, h2⟩ := numbers_eq add_st m 0 0 hm (by unfold I64; omega)
  have h1' : fold_sum.f m = some (numsV addSt m 0 0) := h1
  unfold fold_mean.f meanV
  rw [h1', Option.bind_some]
  split
  · by_cases h0 : m.length = 0
    · rw [if_pos (by omega), if_pos h0, vfail_eq (by omega) (by omega)]; rfl
    · rw [if_neg (by omega), if_neg h0, div_eq _ _ h2]; rfl
  · rfl
def flagsV (all : Bool) : List S23 → Bool → Int × Int × ByteArray
  | [], is => if is = true then (1, 1, noB) else (1, 0, noB)
  | v :: r, is => if (fV v).2.1 = 0 then flagsV all r (if all = true then is && (fV v).1 else is || (fV v).1) else (fV v).2
theorem flags_loop (all : Bool) (l : List S23) (hl : l.length ≤ 4398046511104) : ∀ (d i k : Nat) (is : Bool), i + d = l.length → d + 1 < k → fold_flags.l0 k all is l (l.length : Int) (i : Int) = some (flagsV all (l.drop i) is) := by
  intro d
  induction d with
  | zero =>
    intro i k is hi hk
    obtain ⟨k, rfl⟩ : ∃ m, k = m + 1 := ⟨k - 1, by omega⟩
    rw [fold_flags.l0, if_neg (by omega), List.drop_of_length_le (by omega)]
    unfold fold_truth.f flagsV
    cases is <;> rfl
  | succ d ih =>
    intro i k is hi hk
    obtain ⟨k, rfl⟩ : ∃ m, k = m + 1 := ⟨k - 1, by omega⟩
    have hlt : i < l.length := by omega
    have hd : l.drop i = l[i] :: l.drop (i + 1) := List.drop_eq_getElem_cons hlt
    rw [fold_flags.l0, if_pos (by omega), if_pos (by omega), if_pos (by omega), rdV hlt, wrap_next hlt (by omega), hd, flag_eq k (by omega), Option.bind_some]
    unfold flagsV
    by_cases hk2 : (fV l[i]).2.1 = 0
    · have hk' : (flagV l[i].f0 l[i].f1 l[i].f2).2.1 = 0 := hk2
      rw [if_pos hk', if_pos hk2]
      have hn := fun is => ih (i + 1) k is (by omega) (by omega)
      cases all <;> cases is <;> simp only [Bool.false_eq_true, if_false, if_true, Bool.true_and, Bool.false_and, Bool.true_or, Bool.false_or] <;> exact hn _
    · have hk' : ¬ (flagV l[i].f0 l[i].f1 l[i].f2).2.1 = 0 := hk2
      rw [if_neg hk', if_neg hk2]; rfl
theorem flags_eq (all : Bool) (l : List S23) (hl : l.length ≤ 4398046511104) (k : Nat) (hk : l.length + 1 < k) : fold_flags.f k l all = some (flagsV all l all) := by
  have := flags_loop all l hl l.length 0 k all (by omega) hk
  exact this
def joinS (a b : ByteArray) : Int × Int × ByteArray := if a.size ≤ 200 ∧ b.size ≤ 200 ∧ a.size + b.size ≤ 200 then (3, 0, a ++ b) else (4, 7, noB)
theorem long_eq (k : Nat) (hk : 4 ≤ k) (a b : ByteArray) : text_long.f k [a, b] = some (decide (a.size > 200) || decide (b.size > 200)) := by
  obtain ⟨k, rfl⟩ : ∃ m, k = m + 3 := ⟨k - 3, by omega⟩
  have w1 : wrap64 ((0 : Int) + 1) = 1 := by unfold wrap64; decide
  have w2 : wrap64 ((1 : Int) + 1) = 2 := by unfold wrap64; decide
  unfold text_long.f
  have r0 : rdOf ByteArray.empty [a, b] 0 = a := rfl
  have r1 : rdOf ByteArray.empty [a, b] 1 = b := rfl
  have hlen : (([a, b] : List ByteArray).length : Int) = 2 := rfl
  rw [hlen]
  simp only [text_long.l0, hlen]
  rw [if_pos (by omega), if_pos (by omega), if_pos (by omega), r0, w1]
  by_cases ha : a.size > 200
  · rw [if_pos (by omega), decide_eq_true ha, Bool.true_or]
  · rw [if_neg (by omega), if_pos (by omega), if_pos (by omega), if_pos (by omega), r1, w2]
    by_cases hb : b.size > 200
    · rw [if_pos (by omega), decide_eq_true hb, Bool.or_true]
    · rw [if_neg (by omega), if_neg (by omega), decide_eq_false ha, decide_eq_false hb]; rfl
theorem join_eq (k : Nat) (hk : 4 ≤ k) (a b : ByteArray) : text_Join.f k a b = some (joinS a b) := by
  unfold text_Join.f joinS
  rw [long_eq k hk, Option.bind_some]
  by_cases ha : a.size > 200
  · rw [if_pos (by rw [decide_eq_true ha]; rfl), vfail_eq (by omega) (by omega), if_neg (by omega)]; rfl
  · by_cases hb : b.size > 200
    · rw [if_pos (by rw [decide_eq_true hb, Bool.or_true]), vfail_eq (by omega) (by omega), if_neg (by omega)]; rfl
    · rw [if_neg (by rw [decide_eq_false ha, decide_eq_false hb]; decide), if_pos (by omega), vof_eq, Option.bind_some, ByteArray.size_append]
      by_cases hs : a.size + b.size ≤ 200
      · rw [if_pos hs, if_pos ⟨by omega, by omega, hs⟩]
      · rw [if_neg hs, if_neg (fun h => hs h.2.2)]
def joinedV : List S23 → Int × Int × ByteArray → Int × Int × ByteArray
  | [], st => st
  | v :: r, st => if (sV v).2.1 = 0 then (if (joinS st.2.2 (sV v).1).1 = 4 then joinS st.2.2 (sV v).1 else joinedV r (joinS st.2.2 (sV v).1)) else (sV v).2
theorem joined_loop (l : List S23) (hl : l.length ≤ 4398046511104) (hw : ∀ x ∈ l, I64 x.f1) : ∀ (d i k : Nat) (a b : Int) (s : ByteArray), i + d = l.length → d + 4 < k → fold_joined.l0 k l (l.length : Int) (i : Int) a b s = some (joinedV (l.drop i) (a, b, s)) := by
  intro d
  induction d with
  | zero =>
    intro i k a b s hi hk
    obtain ⟨k, rfl⟩ : ∃ m, k = m + 1 := ⟨k - 1, by omega⟩
    rw [fold_joined.l0, if_neg (by omega), List.drop_of_length_le (by omega)]; rfl
  | succ d ih =>
    intro i k a b s hi hk
    obtain ⟨k, rfl⟩ : ∃ m, k = m + 1 := ⟨k - 1, by omega⟩
    have hlt : i < l.length := by omega
    have hd : l.drop i = l[i] :: l.drop (i + 1) := List.drop_eq_getElem_cons hlt
    rw [fold_joined.l0, if_pos (by omega), if_pos (by omega), if_pos (by omega), rdV hlt, wrap_next hlt (by omega), hd, str_eq k (by omega) _ _ _ (hw _ (List.getElem_mem hlt)), Option.bind_some]
    unfold joinedV
    by_cases hk2 : (sV l[i]).2.1 = 0
    · have hk' : (strV l[i].f0 l[i].f1 l[i].f2).2.1 = 0 := hk2
      rw [if_pos hk', if_pos hk2, join_eq k (by omega), Option.bind_some]
      have hj : joinS s (strV l[i].f0 l[i].f1 l[i].f2).1 = joinS s (sV l[i]).1 := rfl
      rw [hj]
      by_cases h4 : (joinS s (sV l[i]).1).1 = 4
      · rw [if_pos h4, if_pos h4]
      · rw [if_neg h4, if_neg h4]
        exact ih (i + 1) k _ _ _ (by omega) (by omega)
    · have hk' : ¬ (strV l[i].f0 l[i].f1 l[i].f2).2.1 = 0 := hk2
      rw [if_neg hk', if_neg hk2]; rfl
theorem joined_eq (l : List S23) (hl : l.length ≤ 4398046511104) (hw : ∀ x ∈ l, I64 x.f1) (k : Nat) (hk : l.length + 4 < k) : fold_joined.f k l = some (joinedV l (3, 0, noB)) := by
  have := joined_loop l hl hw l.length 0 k 3 0 noB (by omega) hk
  unfold fold_joined.f
  rw [vof_eq, Option.bind_some, if_pos (by decide)]
  exact this
def bestV (bt : Int → Int → Bool) (m : List S23) : Int × Int × ByteArray := if m.length = 0 then (4, 8, noB) else toldV (numsV (bestS bt) m 0 0)
theorem best_eq (bt : Int → Int → Bool) (m : List S23) (hm : ∀ x ∈ m, I64 x.f1) : bestF bt m = some (bestV bt m) := by
  obtain ⟨h1, h2⟩ := numbers_eq (best_st bt) m 0 0 hm (by unfold I64; omega)
  unfold bestF bestV
  split
  · exact vfail_eq (by omega) (by omega)
  · rw [h1, Option.bind_some, told_eq]
def lessB : Int → Int → Bool := fun a b => decide (a < b)
def moreB : Int → Int → Bool := fun a b => decide (b < a)
def withT (r : Int × Int × ByteArray) : Int × Int × ByteArray × Bool := (r.1, r.2.1, r.2.2, true)
def ofV (name : List UInt8) (m : List S23) : Int × Int × ByteArray × Bool :=
  if name = [83, 85, 77] then withT (toldV (numsV addSt m 0 0)) else
  if name = [80, 82, 79, 68, 85, 67, 84] then withT (toldV (numsV mulSt m 1 0)) else
  if name = [77, 73, 78] then withT (bestV lessB m) else
  if name = [77, 65, 88] then withT (bestV moreB m) else
  if name = [65, 86, 71] then withT (meanV m) else
  if name = [65, 78, 68] then withT (flagsV true m true) else
  if name = [79, 82] then withT (flagsV false m false) else
  if name = [74, 79, 73, 78] then withT (joinedV m (3, 0, noB)) else
  if name = [67, 79, 85, 78, 84] then (2, ((intsV m).length : Int), noB, true) else
  if name = [67, 79, 85, 78, 84, 65] then (2, (m.length : Int), noB, true) else
  (0, 0, noB, false)
theorem ite_some {α : Type} {c : Prop} [Decidable c] {x y : Option α} {a b : α} (h1 : x = some a) (h2 : y = some b) : (if c then x else y) = some (if c then a else b) := by
  split
  · exact h1
  · exact h2
theorem ofF_eq (name : List UInt8) (m : List S23) (hl : m.length ≤ 4398046511104) (hm : ∀ x ∈ m, I64 x.f1) : ofF name m = some (ofV name m) := by
  obtain ⟨a1, a2⟩ := numbers_eq add_st m 0 0 hm (by unfold I64; omega)
  obtain ⟨m1, m2⟩ := numbers_eq mul_st m 1 0 hm (by unfold I64; omega)
  have a1' : fold_sum.f m = some (numsV addSt m 0 0) := a1
  unfold ofF ofV
  rw [a1', Option.bind_some, told_eq, m1, Option.bind_some, told_eq, show bestF (fun a b => decide (a < b)) m = some (bestV lessB m) from best_eq lessB m hm, show bestF (fun a b => decide (b < a)) m = some (bestV moreB m) from best_eq moreB m hm, mean_eq m hm, flags_eq true m hl _ (by omega), flags_eq false m hl _ (by omega), joined_eq m hl hm _ (by omega)]
  exact ite_some rfl (ite_some rfl (ite_some rfl (ite_some rfl (ite_some rfl (ite_some rfl (ite_some rfl (ite_some rfl (ite_some rfl (ite_some rfl rfl)))))))))
theorem full_all {l : List S23} {Q : S23 → Prop} (h : ∀ x ∈ l, Q x) : ∀ x ∈ fullV l, Q x := fun x hx => h x (List.mem_filter.1 hx).1
theorem of_eq (a0 : ByteArray) (l : List S23) (hl : l.length < 4398046511104) (hw : ∀ x ∈ l, I64 x.f1) : fold_Of.f a0 l = some (ofV a0.toList (fullV l)) := by
  unfold fold_Of.f
  rw [if_pos hl]
  exact ofF_eq _ _ (by have := full_le l; omega) (full_all hw)
end Go.Proofs.YtmdmpafdpgdpoaaDoor.P

namespace Go.Proofs.YtmdmpafdpgdpoaaDoor.P
open Go.RowKit Go.Proofs.YtmdmpafdpgdpoaaDoorW.PrintWords Go.Proofs.YtmdmpafdpgdpoaaDoorW.PrintLast Go.Proofs.YtmdmpafdpgdpoaaDoorW.PrintMore
open M (fit I64)
set_option linter.unusedVariables false
set_option linter.unusedSimpArgs false
def bv (b : Bool) : S23 := if b = true then ⟨1, 1, ⟨#[]⟩⟩ else ⟨1, 0, ⟨#[]⟩⟩
def nb (b : Bool) : S23 := if b = true then ⟨1, 0, ⟨#[]⟩⟩ else ⟨1, 1, ⟨#[]⟩⟩
def tv (s : ByteArray) : S23 := ⟨3, 0, s⟩
theorem fV_bv (b : Bool) : fV (bv b) = (b, 0, 0, noB) := by cases b <;> decide +kernel
theorem fV_nb (b : Bool) : fV (nb b) = (!b, 0, 0, noB) := by cases b <;> decide +kernel
theorem and_bv : ∀ (l : List Bool) (is : Bool), flagsV true (l.map bv) is = (1, (if (is && l.all id) = true then 1 else 0), noB)
  | [], is => by cases is <;> rfl
  | b :: r, is => by
    rw [List.map_cons, flagsV, fV_bv, if_pos rfl, if_pos rfl, and_bv r]
    show _ = (1, (if (is && (b && r.all id)) = true then 1 else 0), noB)
    rw [← Bool.and_assoc]
theorem or_bv : ∀ (l : List Bool) (is : Bool), flagsV false (l.map bv) is = (1, (if (is || l.any id) = true then 1 else 0), noB)
  | [], is => by cases is <;> rfl
  | b :: r, is => by
    rw [List.map_cons, flagsV, fV_bv, if_pos rfl, if_neg (by decide), or_bv r]
    show _ = (1, (if (is || (b || r.any id)) = true then 1 else 0), noB)
    rw [← Bool.or_assoc]
theorem and_nb : ∀ (l : List Bool) (is : Bool), flagsV true (l.map nb) is = (1, (if (is && !l.any id) = true then 1 else 0), noB)
  | [], is => by cases is <;> rfl
  | b :: r, is => by
    rw [List.map_cons, flagsV, fV_nb, if_pos rfl, if_pos rfl, and_nb r]
    show _ = (1, (if (is && !(b || r.any id)) = true then 1 else 0), noB)
    rw [Bool.not_or, ← Bool.and_assoc]
theorem full_bv (l : List Bool) : fullV (l.map bv) = l.map bv := by
  unfold fullV
  refine List.filter_eq_self.2 fun x hx => ?_
  obtain ⟨b, _, rfl⟩ := List.mem_map.1 hx
  cases b <;> rfl
theorem full_nb (l : List Bool) : fullV (l.map nb) = l.map nb := by
  unfold fullV
  refine List.filter_eq_self.2 fun x hx => ?_
  obtain ⟨b, _, rfl⟩ := List.mem_map.1 hx
  cases b <;> rfl
theorem full_tv (l : List ByteArray) : fullV (l.map tv) = l.map tv := by
  unfold fullV
  refine List.filter_eq_self.2 fun x hx => ?_
  obtain ⟨b, _, rfl⟩ := List.mem_map.1 hx
  rfl
def catS (s : ByteArray) (l : List ByteArray) : ByteArray := l.foldl (· ++ ·) s
theorem catS_ge : ∀ (l : List ByteArray) (s : ByteArray), s.size ≤ (catS s l).size
  | [], s => Nat.le_refl _
  | x :: r, s => by
    have h := catS_ge r (s ++ x)
    rw [ByteArray.size_append] at h
    have e : catS s (x :: r) = catS (s ++ x) r := rfl
    rw [e]; omega
theorem sV_tv {x : ByteArray} (h : x.size ≤ 200) : sV (tv x) = (x, 0, 0, noB) := by
  show strV 3 0 x = _
  unfold strV showS
  rw [if_pos ⟨good_text h, by decide⟩, if_pos (good_text h), if_neg (by decide), if_neg (by decide), if_neg (by decide)]
theorem join_tv : ∀ (l : List ByteArray) (s : ByteArray), (catS s l).size ≤ 200 → joinedV (l.map tv) (3, 0, s) = (3, 0, catS s l)
  | [], s, _ => rfl
  | x :: r, s, h => by
    have e : catS s (x :: r) = catS (s ++ x) r := rfl
    rw [e] at h
    have h1 := catS_ge r (s ++ x)
    rw [ByteArray.size_append] at h1
    rw [List.map_cons, joinedV, sV_tv (by omega), if_pos rfl]
    have hj : joinS s x = (3, 0, s ++ x) := by unfold joinS; rw [if_pos ⟨by omega, by omega, by omega⟩]
    simp only [hj]
    rw [if_neg (by decide), join_tv r (s ++ x) h, e]
theorem rdB {l : List Bool} {i : Nat} (h : i < l.length) : rdOf false l (i : Int) = l[i] := by
  unfold rdOf; simp [List.getD_eq_getElem?_getD, h]
theorem rdT10 {l : List ByteArray} {i : Nat} (h : i < l.length) : rdOf ByteArray.empty l (i : Int) = l[i] := by
  unfold rdOf; simp [List.getD_eq_getElem?_getD, h]
theorem bools_loop (ls : List ByteArray) (m : Nat) : ∀ (rest p lb : List Bool), lb = p ++ rest → lb.length ≤ 1000 →
    pannierlaw10_FoldTruths.l0 (rest.length + (m + 1)) lb ls (p.map bv) (p.map nb) (p.all id) (p.any id) (p.length : Int) = pannierlaw10_FoldTruths.l1 m ls (lb.map bv) (lb.map nb) [] (lb.all id) (lb.any id) ⟨#[]⟩ 0 := by
  intro rest
  induction rest with
  | nil =>
    intro p lb hp hl
    rw [List.append_nil] at hp
    subst hp
    rw [List.length_nil, Nat.zero_add, pannierlaw10_FoldTruths.l0, if_neg (by omega)]
  | cons b r ih =>
    intro p lb hp hl
    have hlen : lb.length = p.length + (r.length + 1) := by rw [hp, List.length_append, List.length_cons]
    have ih' := ih (p ++ [b]) lb (by rw [hp]; simp) hl
    have h8 : (p ++ [b]).all id = (p.all id && b) := by rw [List.all_append]; simp
    have h9 : (p ++ [b]).any id = (p.any id || b) := by rw [List.any_append]; simp
    have hx : (p ++ [b]).map bv = p.map bv ++ [bv b] := by rw [List.map_append]; rfl
    have hy : (p ++ [b]).map nb = p.map nb ++ [nb b] := by rw [List.map_append]; rfl
    have hn : (((p ++ [b]).length : Nat) : Int) = wrap64 ((p.length : Int) + 1) := by rw [M.wrap64_id (by unfold I64; omega), List.length_append]; simp
    rw [h8, h9, hx, hy, hn] at ih'
    have hrd : rdOf false lb (p.length : Int) = b := by
      rw [rdB (by omega)]
      subst hp
      simp
    have hpx : (p.map bv).length = p.length := List.length_map ..
    have hpy : (p.map nb).length = p.length := List.length_map ..
    rw [← ih', List.length_cons, show r.length + 1 + (m + 1) = (r.length + (m + 1)) + 1 by omega, pannierlaw10_FoldTruths.l0, if_pos (by omega), if_pos (by omega), hrd]
    clear ih ih' hrd hn h8 h9 hx hy
    generalize p.all id = u
    generalize p.any id = v
    cases b
    · rw [if_neg (by decide), Option.bind_some, if_pos (by rw [hpx]; simp; omega), Option.bind_some, Option.bind_some, if_pos (by rw [hpy]; simp; omega), Option.bind_some, show bv false = (⟨1, 0, ⟨#[]⟩⟩ : S23) from rfl, show nb false = (⟨1, 1, ⟨#[]⟩⟩ : S23) from rfl]
      clear hp hl hlen hpx hpy
      cases u <;> cases v <;> simp only [Bool.false_eq_true, if_false, if_true, Bool.and_true, Bool.and_false, Bool.true_and, Bool.false_and, Bool.or_true, Bool.or_false, Bool.true_or, Bool.false_or]
    · rw [if_pos rfl, Option.bind_some, if_pos (by rw [hpx]; simp; omega), Option.bind_some, Option.bind_some, if_pos (by rw [hpy]; simp; omega), Option.bind_some, show bv true = (⟨1, 1, ⟨#[]⟩⟩ : S23) from rfl, show nb true = (⟨1, 0, ⟨#[]⟩⟩ : S23) from rfl]
      clear hp hl hlen hpx hpy
      cases u <;> cases v <;> simp only [Bool.false_eq_true, if_false, if_true, Bool.and_true, Bool.and_false, Bool.true_and, Bool.false_and, Bool.or_true, Bool.or_false, Bool.true_or, Bool.false_or]
theorem ofAnd_bv (l : List Bool) (hl : l.length ≤ 1000) : fold_Of.f (⟨#[65, 78, 68]⟩ : ByteArray) (l.map bv) = some (1, (if l.all id = true then 1 else 0), noB, true) := by
  rw [of_eq _ _ (by rw [List.length_map]; omega) (fun x hx => by obtain ⟨b, _, rfl⟩ := List.mem_map.1 hx; cases b <;> (show I64 _; unfold I64; decide)), full_bv]
  have hn : (⟨#[65, 78, 68]⟩ : ByteArray).toList = [65, 78, 68] := by rw [ByteArray.toList_eq]
  rw [hn]
  unfold ofV
  rw [if_neg (by decide), if_neg (by decide), if_neg (by decide), if_neg (by decide), if_neg (by decide), if_pos rfl, and_bv]
  simp only [Bool.true_and]; rfl
theorem ofOr_bv (l : List Bool) (hl : l.length ≤ 1000) : fold_Of.f (⟨#[79, 82]⟩ : ByteArray) (l.map bv) = some (1, (if l.any id = true then 1 else 0), noB, true) := by
  rw [of_eq _ _ (by rw [List.length_map]; omega) (fun x hx => by obtain ⟨b, _, rfl⟩ := List.mem_map.1 hx; cases b <;> (show I64 _; unfold I64; decide)), full_bv]
  have hn : (⟨#[79, 82]⟩ : ByteArray).toList = [79, 82] := by rw [ByteArray.toList_eq]
  rw [hn]
  unfold ofV
  rw [if_neg (by decide), if_neg (by decide), if_neg (by decide), if_neg (by decide), if_neg (by decide), if_neg (by decide), if_pos rfl, or_bv]
  simp only [Bool.false_or]; rfl
theorem ofAnd_nb (l : List Bool) (hl : l.length ≤ 1000) : fold_Of.f (⟨#[65, 78, 68]⟩ : ByteArray) (l.map nb) = some (1, (if (!l.any id) = true then 1 else 0), noB, true) := by
  rw [of_eq _ _ (by rw [List.length_map]; omega) (fun x hx => by obtain ⟨b, _, rfl⟩ := List.mem_map.1 hx; cases b <;> (show I64 _; unfold I64; decide)), full_nb]
  have hn : (⟨#[65, 78, 68]⟩ : ByteArray).toList = [65, 78, 68] := by rw [ByteArray.toList_eq]
  rw [hn]
  unfold ofV
  rw [if_neg (by decide), if_neg (by decide), if_neg (by decide), if_neg (by decide), if_neg (by decide), if_pos rfl, and_nb]
  simp only [Bool.true_and]; rfl
theorem ofJoin_tv (l : List ByteArray) (hl : l.length ≤ 1000) (h : (catS noB l).size ≤ 200) : fold_Of.f (⟨#[74, 79, 73, 78]⟩ : ByteArray) (l.map tv) = some (3, 0, catS noB l, true) := by
  rw [of_eq _ _ (by rw [List.length_map]; omega) (fun x hx => by obtain ⟨b, _, rfl⟩ := List.mem_map.1 hx; show I64 0; unfold I64; omega), full_tv]
  have hn : (⟨#[74, 79, 73, 78]⟩ : ByteArray).toList = [74, 79, 73, 78] := by rw [ByteArray.toList_eq]
  rw [hn]
  unfold ofV
  rw [if_neg (by decide), if_neg (by decide), if_neg (by decide), if_neg (by decide), if_neg (by decide), if_neg (by decide), if_neg (by decide), if_pos rfl, join_tv l noB h]
  rfl
theorem one_if (b : Bool) : (((if b = true then (1 : Int) else 0) == 1) == b) = true := by cases b <;> rfl
theorem texts_loop (lb : List Bool) (hlb : lb.length ≤ 1000) (m : Nat) : ∀ (rest p ls : List ByteArray), ls = p ++ rest → ls.length ≤ 1000 → (catS noB p).size ≤ 200 →
    pannierlaw10_FoldTruths.l1 (rest.length + (m + 1)) ls (lb.map bv) (lb.map nb) (p.map tv) (lb.all id) (lb.any id) (catS noB p) (p.length : Int) = some true := by
  intro rest
  induction rest with
  | nil =>
    intro p ls hp hl hs
    rw [List.append_nil] at hp
    subst hp
    rw [List.length_nil, Nat.zero_add, pannierlaw10_FoldTruths.l1, if_neg (by omega), ofAnd_bv lb hlb, ofOr_bv lb hlb, ofAnd_nb lb hlb, ofJoin_tv _ hl hs]
    simp only [Option.bind_some]
    rw [if_pos (one_if _), if_pos (one_if _), if_pos (one_if _), if_pos trivial, if_pos trivial, if_pos trivial, if_pos trivial, wakes10]; rfl
  | cons s r ih =>
    intro p ls hp hl hs
    have hlen : ls.length = p.length + (r.length + 1) := by rw [hp, List.length_append, List.length_cons]
    have hrd : rdOf ByteArray.empty ls (p.length : Int) = s := by
      rw [rdT10 (by omega)]
      subst hp
      simp
    have hpx : (p.map tv).length = p.length := List.length_map ..
    rw [List.length_cons, show r.length + 1 + (m + 1) = (r.length + (m + 1)) + 1 by omega, pannierlaw10_FoldTruths.l1, if_pos (by omega), if_pos (by omega), hrd]
    by_cases h1 : (s.size : Int) > 200
    · rw [if_pos h1, wakes10]; rfl
    · have hw : wrap64 (((catS noB p).size : Int) + (s.size : Int)) = ((catS noB p).size : Int) + (s.size : Int) := M.wrap64_id (by unfold I64; omega)
      rw [if_neg h1, hw]
      by_cases h2 : ((catS noB p).size : Int) + (s.size : Int) > 200
      · rw [if_pos h2, wakes10]; rfl
      · have hc : catS noB (p ++ [s]) = catS noB p ++ s := by unfold catS; rw [List.foldl_append]; rfl
        have ht : (p ++ [s]).map tv = p.map tv ++ [tv s] := by rw [List.map_append]; rfl
        have hn : (((p ++ [s]).length : Nat) : Int) = wrap64 ((p.length : Int) + 1) := by rw [M.wrap64_id (by unfold I64; omega), List.length_append]; simp
        have ih' := ih (p ++ [s]) ls (by rw [hp]; simp) hl (by rw [hc, ByteArray.size_append]; omega)
        rw [hc, ht, hn] at ih'
        rw [if_neg h2, if_pos (by omega), Option.bind_some, if_pos (by rw [hpx]; simp; omega)]
        exact ih'
theorem FoldTruths_any (lb : List Bool) (ls : List ByteArray) : ∃ k, pannierlaw10_FoldTruths.f k lb ls = some true := by
  refine ⟨(lb.length + ((ls.length + (0 + 1)) + 1)) + 1, ?_⟩
  have hbig : pannierlaw10_FoldTruths.j0 ((lb.length + ((ls.length + (0 + 1)) + 1)) + 1) lb ls true = some true := by
    rw [pannierlaw10_FoldTruths.j0, if_pos rfl, wakes10]; rfl
  unfold pannierlaw10_FoldTruths.f
  by_cases h1 : (lb.length : Int) > 100
  · rw [if_pos h1]; exact hbig
  · rw [if_neg h1]
    by_cases h2 : (ls.length : Int) > 100
    · rw [if_pos h2]; exact hbig
    · rw [if_neg h2]
      by_cases h3 : (lb.length : Int) = 0
      · rw [beq_iff_eq.2 h3]; exact hbig
      · rw [beq_eq_false_iff_ne.2 h3, pannierlaw10_FoldTruths.j0, if_neg (by decide)]
        have e1 := bools_loop ls (ls.length + (0 + 1)) lb [] lb rfl (by omega)
        have e2 := texts_loop lb (by omega) 0 ls [] ls rfl (by omega) (by decide)
        exact e1.trans e2
theorem FoldTruths_pure (lb : List Bool) (ls : List ByteArray) (h0 : lb.length * 1 ≤ 140737488351232) (w0 : ∀ x ∈ lb, True) (h1 : ls.length * 16 ≤ 140737488351232) (w1 : ∀ x ∈ ls, True) : ∃ k, pannierlaw10_FoldTruths.f k lb ls = some true := FoldTruths_any lb ls
end Go.Proofs.YtmdmpafdpgdpoaaDoor.P
