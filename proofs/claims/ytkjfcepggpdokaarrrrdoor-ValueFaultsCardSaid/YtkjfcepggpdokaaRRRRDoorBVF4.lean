/- Contracts of the functions that the law reaches, each with the plain function that it comes to, and plain facts about these. -/
import Derived.Laws.Strings
import Derived.Test.YtkjfcepggpdokaaRRRRDoorBVF1
import Derived.Test.YtkjfcepggpdokaaRRRRDoorBVF2
import Derived.Test.YtkjfcepggpdokaaRRRRDoorBVF3
/- Digits and the numbers that they tell, of the program and of the reference. -/
namespace Go.Proofs.YtkjfcepggpdokaaRRRRDoor.P
open Go.RowKit Go.Proofs.YtkjfcepggpdokaaRRRRDoorW.PrintWords Go.Proofs.YtkjfcepggpdokaaRRRRDoorW.PrintLast Go.Proofs.YtkjfcepggpdokaaRRRRDoorW.PrintMore
open M (fit I64 u64w dig itoaF)
set_option linter.unusedVariables false
set_option linter.unusedSimpArgs false

/-- A list of bytes as a string. -/
abbrev bs (l : List UInt8) : ByteArray := ⟨l.toArray⟩
theorem bs_size (l : List UInt8) : (bs l).size = l.length := rfl
theorem bs_append (l m : List UInt8) : bs l ++ bs m = bs (l ++ m) := by
  apply ByteArray.ext; simp [ByteArray.data_append]
theorem bs_toList (l : List UInt8) : (bs l).toList = l := by rw [ByteArray.toList_eq]
theorem bs_data (s : ByteArray) : bs s.data.toList = s := rfl
theorem digit_piece (d : Nat) (h : d < 10) : (⟨#[48, 49, 50, 51, 52, 53, 54, 55, 56, 57]⟩ : ByteArray).extract d (d + 1) = bs [UInt8.ofNat (48 + d)] := by
  have : ∀ d : Fin 10, ((⟨#[48, 49, 50, 51, 52, 53, 54, 55, 56, 57]⟩ : ByteArray).extract d.val (d.val + 1)).data = #[UInt8.ofNat (48 + d.val)] := by decide +kernel
  exact ByteArray.ext (this ⟨d, h⟩)

theorem digits_loop : ∀ (n u i k : Nat) (l : List UInt8), 0 < n → u < 10 ^ n → i + n ≤ 20 → l.length + n ≤ 1000 → n < k → u < 18446744073709551616 →
    pannierref01_digits.l0 k (u : Int) (bs l) (i : Int) = some (bs (dig n u ++ l)) := by
  intro n
  induction n with
  | zero => intro u i k l h; omega
  | succ n ih =>
    intro u i k l _ hu hi hl hk h64
    obtain ⟨k, rfl⟩ : ∃ m, k = m + 1 := ⟨k - 1, by omega⟩
    have hw : wrap64 ((i : Int) + 1) = ((i + 1 : Nat) : Int) := by rw [M.wrap64_id (by unfold I64; omega)]; omega
    have e1 : Int.tmod (u : Int) 10 = ((u % 10 : Nat) : Int) := by rw [show (10 : Int) = ((10 : Nat) : Int) from rfl, ← Int.ofNat_tmod]
    have e2 : Int.tdiv (u : Int) 10 = ((u / 10 : Nat) : Int) := by rw [show (10 : Int) = ((10 : Nat) : Int) from rfl, ← Int.ofNat_tdiv]
    have e3 : IntKind.u64.wrap (((u % 10 : Nat) : Int) + 1) = ((u % 10 + 1 : Nat) : Int) := by rw [u64w]; omega
    have e4 : IntKind.u64.wrap ((u / 10 : Nat) : Int) = ((u / 10 : Nat) : Int) := by rw [u64w]; omega
    have e5 := digit_piece (u % 10) (Nat.mod_lt _ (by omega))
    simp only [pannierref01_digits.l0]
    rw [e1, e2, e3, e4, hw, Int.toNat_natCast, Int.toNat_natCast, e5, bs_append]
    rw [if_pos (by omega), if_pos (by omega), if_pos (by omega), if_pos (by omega), if_pos (by rw [bs_size, bs_size]; simp; omega)]
    by_cases h0 : u < 10
    · rw [if_pos (by omega), dig, if_pos h0, show u % 10 = u by omega]
    · rw [if_neg (by omega), dig, if_neg h0]
      have hn : 0 < n := by
        rcases Nat.eq_zero_or_pos n with rfl | h
        · simp at hu; omega
        · exact h
      rw [ih (u / 10) (i + 1) k _ hn (by rw [Nat.pow_succ] at hu; omega) (by omega) (by simp; omega) (by omega) (by omega)]
      simp
theorem digits_eq (k u : Nat) (hk : 21 ≤ k) (hu : u < 18446744073709551616) : pannierref01_digits.f k (u : Int) = some (bs (dig 20 u)) := by
  unfold pannierref01_digits.f
  have := digits_loop 20 u 0 k [] (by omega) (by omega) (by omega) (by simp) (by omega) hu
  rw [List.append_nil] at this
  exact this
theorem rdec_eq (k : Nat) (hk : 21 ≤ k) (a : Int) (ha : I64 a) : pannierref01_Dec.f k a = some (bs (itoaF a)) := by
  unfold pannierref01_Dec.f itoaF
  have hl := M.dig_length 20 a.natAbs
  unfold I64 at ha
  by_cases h : a < 0
  · rw [if_pos h, whole_eq a ha, Option.bind_some, digits_eq k _ hk (by omega), Option.bind_some, if_pos (by rw [bs_size]; omega), if_pos h]
    rw [show (⟨#[45]⟩ : ByteArray) = bs [45] from rfl, bs_append]; rfl
  · rw [if_neg h, whole_eq a ha, Option.bind_some, digits_eq k _ hk (by omega), Option.bind_some, if_neg h, show a.natAbs = a.toNat by omega]

theorem bt_list (s : ByteArray) (i : Nat) (h : i < s.data.toList.length) : bt s (i : Int) = ((s.data.toList[i]).toNat : Int) := by
  unfold bt
  rw [dif_pos (by simpa using h)]
  rfl
theorem dec_one (a : Int) (ha : I64 a) : num_Dec.f a = some (bs (itoaF a)) := num_Dec_f a ha.1 ha.2
theorem itoa_short (a : Int) : (itoaF a).length ≤ 21 := by
  unfold itoaF
  have h1 := M.dig_length 20 a.natAbs
  have h2 := M.dig_length 20 a.toNat
  split <;> simp <;> omega

/-! ### The reference's Parse: the digits of a number lead to it; and what it tells has these digits -/
theorem l0_at (k : Nat) (s : ByteArray) (f u : Int) (i : Nat) (h : i < s.data.toList.length) (c : UInt8) (hc : s.data.toList[i] = c) :
    pannierref01_Parse.l0 (k + 1) s f u (i : Int) = if (c.toNat : Int) < 48 then some (0, false) else if (c.toNat : Int) > 57 then some (0, false) else if u > 922337203685477580 then some (0, false) else
      pannierref01_Parse.l0 k s f (IntKind.u64.wrap ((IntKind.u64.wrap (u * 10)) + (((c.toNat : Int) - 48) % 256))) (wrap64 ((i : Int) + 1)) := by
  have hs : s.data.toList.length = s.size := by simp
  simp only [pannierref01_Parse.l0]
  rw [if_pos (by omega), if_pos (by omega), bt_list s i h, hc]
theorem parse_end (k : Nat) (hk : 25 ≤ k) (s : ByteArray) (neg : Bool) (v : Int) (u : Int) (hv : I64 v) (h0 : 0 ≤ u) (h1 : u < 18446744073709551616) (hu : v = if neg = true then -u else u) (hs : itoaF v = s.data.toList) :
    pannierref01_Parse.l0 k s (if neg = true then 1 else 0) u (s.size : Int) = some (v, true) := by
  obtain ⟨k, rfl⟩ : ∃ m, k = m + 2 := ⟨k - 2, by omega⟩
  simp only [pannierref01_Parse.l0]
  rw [if_neg (by omega), show ((if neg = true then (1 : Int) else 0) == 1) = neg by cases neg <;> rfl, rsigned_eq _ _ _ h0 h1, ← hu, M.fit_in hv, Option.bind_some, if_pos rfl, rdec_eq _ (by omega) v hv, Option.bind_some, if_pos]
  rw [bs_toList, ByteArray.toList_eq, hs]
theorem parse_run (s : ByteArray) (neg : Bool) (v : Int) (hv : I64 v) (hs : itoaF v = s.data.toList) :
    ∀ (r : List UInt8) (i : Nat) (u k : Nat), s.data.toList.drop i = r → i + r.length = s.size → (∀ c ∈ r, 48 ≤ c.toNat ∧ c.toNat ≤ 57) → M.val u r ≤ 9223372036854775808 →
      v = (if neg = true then -((M.val u r : Nat) : Int) else ((M.val u r : Nat) : Int)) → r.length + 26 ≤ k →
      pannierref01_Parse.l0 k s (if neg = true then 1 else 0) (u : Int) (i : Int) = some (v, true)
  | [], i, u, k, hd, hi, _, hb, hvv, hk => by
    have e : i = s.size := by simpa using hi
    rw [e]
    have hb' : u ≤ 9223372036854775808 := hb
    have hv2 : v = if neg = true then -(u : Int) else (u : Int) := hvv
    have hk' : 25 ≤ k := by simp at hk; omega
    clear hb hvv hk hi hd
    exact parse_end k hk' s neg v u hv (by omega) (by omega) hv2 hs
  | c :: r, i, u, k, hd, hi, hdig, hb, hvv, hk => by
    obtain ⟨k, rfl⟩ : ∃ m, k = m + 1 := ⟨k - 1, by simp at hk; omega⟩
    have hlen : i < s.data.toList.length := by simp at hi ⊢; omega
    have hc : s.data.toList[i] = c := by
      have h1 : (s.data.toList.drop i)[0]? = some c := by rw [hd]; rfl
      rw [List.getElem?_drop, Nat.add_zero] at h1
      exact (List.getElem?_eq_some_iff.mp h1).2
    have hg := M.val_ge r (u * 10 + (c.toNat - 48))
    have hcd := hdig c (by simp)
    have hb' : M.val (u * 10 + (c.toNat - 48)) r ≤ 9223372036854775808 := hb
    have hw : wrap64 ((i : Int) + 1) = ((i + 1 : Nat) : Int) := by
      have : s.data.toList.length = (itoaF v).length := by rw [hs]
      have := itoa_short v
      rw [M.wrap64_id (by unfold I64; omega)]; omega
    rw [l0_at k s _ _ i hlen c hc, if_neg (by omega), if_neg (by omega), if_neg (by omega), hw, u64w, u64w]
    rw [show ((u : Int) * 10 % 18446744073709551616 + ((c.toNat : Int) - 48) % 256) % 18446744073709551616 = ((u * 10 + (c.toNat - 48) : Nat) : Int) by omega]
    exact parse_run s neg v hv hs r (i + 1) _ k (by rw [← List.drop_drop, hd]; rfl) (by simp at hi; omega) (fun x hx => hdig x (by simp [hx])) hb' hvv (by simp at hk; omega)
theorem rparse_itoa (k : Nat) (hk : 60 ≤ k) (v : Int) (hv : I64 v) (s : ByteArray) (hs : itoaF v = s.data.toList) : pannierref01_Parse.f k s = some (v, true) := by
  have hshort := itoa_short v
  have hlen : s.data.toList.length = s.size := by simp
  have hsz : (itoaF v).length = s.size := by rw [hs, hlen]
  have hpos : 0 < (itoaF v).length := by
    unfold itoaF; split
    · simp
    · have := M.dig_ne 20 v.toNat (by omega); exact List.length_pos_iff.mpr this
  obtain ⟨k, rfl⟩ : ∃ m, k = m + 3 := ⟨k - 3, by omega⟩
  unfold pannierref01_Parse.f
  rw [if_pos (by omega), if_pos (by omega)]
  have hb0 : bt s 0 = ((s.data.toList[0]'(by omega)).toNat : Int) := bt_list s 0 (by omega)
  have huv : I64 v := hv
  unfold I64 at hv
  by_cases h : v < 0
  · have he : itoaF v = 45 :: dig 20 v.natAbs := by unfold itoaF; rw [if_pos h]
    have h45 : s.data.toList[0]'(by omega) = 45 := by simp [← hs, he]
    rw [hb0, h45]
    have hdl : (dig 20 v.natAbs).length + 1 = s.size := by rw [← hsz, he]; simp
    have hdn := M.dig_ne 20 v.natAbs (by omega)
    have hdp : 0 < (dig 20 v.natAbs).length := List.length_pos_iff.mpr hdn
    have hd19 : s.size ≤ 20 := by
      have : (dig 20 v.natAbs) = dig 19 v.natAbs := by rw [M.dig_eq 20 _ (by omega) (by omega), M.dig_eq 19 _ (by omega) (by omega)]
      have := M.dig_length 19 v.natAbs
      rw [‹dig 20 v.natAbs = dig 19 v.natAbs›] at hdl
      omega
    have hval := M.val_dig 20 v.natAbs (by omega)
    simp only [pannierref01_Parse.j0, pannierref01_Parse.j1, pannierref01_Parse.j2]
    rw [if_pos (by decide), if_neg (by omega), if_neg (by simp; omega)]
    exact parse_run s true v huv hs (dig 20 v.natAbs) 1 0 k (by rw [← hs, he]; rfl) (by omega) (M.dig_digits _ _) (by rw [hval]; omega) (by rw [hval]; simp; omega) (by omega)
  · have he : itoaF v = dig 20 v.toNat := by unfold itoaF; rw [if_neg h]
    have hd19 : (dig 20 v.toNat).length ≤ 20 := M.dig_length 20 _
    have hval := M.val_dig 20 v.toNat (by omega)
    have hne : ¬ (bt s 0 == 45) = true := by
      rw [hb0]
      have : 48 ≤ (s.data.toList[0]'(by omega)).toNat := (M.dig_digits 20 v.toNat _ (by rw [← he, hs]; exact List.getElem_mem _)).1
      rw [beq_iff_eq]; omega
    have hne' : (bt s 0 == 45) = false := by simpa using hne
    rw [hne']
    simp only [pannierref01_Parse.j0, pannierref01_Parse.j1, pannierref01_Parse.j2]
    rw [if_neg (by simp), if_neg (by omega), if_neg (by rw [he] at hsz; simp; omega)]
    exact parse_run s false v huv hs (dig 20 v.toNat) 0 0 k (by rw [← hs, he]; rfl) (by rw [← hsz, he]; omega) (M.dig_digits _ _) (by rw [hval]; omega) (by rw [hval]; simp; omega) (by omega)
/-- What it tells is none, or has these digits. -/
theorem rparse_tells (k : Nat) (s : ByteArray) (hs : s.size ≤ 2000) (hk : 2100 ≤ k) : ∃ x : Int, ∃ ok : Bool, pannierref01_Parse.f k s = some (x, ok) ∧ ((x = 0 ∧ ok = false) ∨ (ok = true ∧ I64 x ∧ itoaF x = s.data.toList)) := by
  have hlen : s.data.toList.length = s.size := by simp
  have run : ∀ (d i : Nat) (u f : Int) (k : Nat), i + d = s.size → 0 ≤ u → u < 18446744073709551616 → d + 26 ≤ k → ∃ x : Int, ∃ ok : Bool, pannierref01_Parse.l0 k s f u (i : Int) = some (x, ok) ∧ ((x = 0 ∧ ok = false) ∨ (ok = true ∧ I64 x ∧ itoaF x = s.data.toList)) := by
    intro d
    induction d with
    | zero =>
      intro i u f k hi h0 h1 hk
      obtain ⟨k, rfl⟩ : ∃ m, k = m + 2 := ⟨k - 2, by omega⟩
      simp only [pannierref01_Parse.l0]
      rw [if_neg (by omega), rsigned_eq _ _ _ h0 h1, Option.bind_some]
      by_cases hin : I64 (if (f == 1) = true then -u else u)
      · rw [M.fit_in hin, if_pos rfl, rdec_eq _ (by omega) _ hin, Option.bind_some, bs_toList, ByteArray.toList_eq]
        by_cases he : itoaF (if (f == 1) = true then -u else u) = s.data.toList
        · rw [if_pos he]; exact ⟨_, _, rfl, .inr ⟨rfl, hin, he⟩⟩
        · rw [if_neg he]; exact ⟨_, _, rfl, .inl ⟨rfl, rfl⟩⟩
      · rw [M.fit_out hin, if_neg (by simp)]; exact ⟨_, _, rfl, .inl ⟨rfl, rfl⟩⟩
    | succ d ih =>
      intro i u f k hi h0 h1 hk
      obtain ⟨k, rfl⟩ : ∃ m, k = m + 1 := ⟨k - 1, by omega⟩
      rw [l0_at k s f u i (by omega) _ rfl]
      have hw : wrap64 ((i : Int) + 1) = ((i + 1 : Nat) : Int) := by rw [M.wrap64_id (by unfold I64; omega)]; omega
      rw [hw]
      split
      · exact ⟨_, _, rfl, .inl ⟨rfl, rfl⟩⟩
      · split
        · exact ⟨_, _, rfl, .inl ⟨rfl, rfl⟩⟩
        · split
          · exact ⟨_, _, rfl, .inl ⟨rfl, rfl⟩⟩
          · refine ih (i + 1) _ f k (by omega) ?_ ?_ (by omega)
            · rw [u64w]; omega
            · rw [u64w]; omega
  have none_ : ∃ x : Int, ∃ ok : Bool, (some ((0 : Int), false)) = some (x, ok) ∧ ((x = 0 ∧ ok = false) ∨ (ok = true ∧ I64 x ∧ itoaF x = s.data.toList)) := ⟨0, false, rfl, .inl ⟨rfl, rfl⟩⟩
  obtain ⟨k, rfl⟩ : ∃ m, k = m + 3 := ⟨k - 3, by omega⟩
  have j2 : ∀ (i : Nat) (c : Bool), i ≤ s.size → ∃ x : Int, ∃ ok : Bool, pannierref01_Parse.j2 (k + 1) s (i : Int) c = some (x, ok) ∧ ((x = 0 ∧ ok = false) ∨ (ok = true ∧ I64 x ∧ itoaF x = s.data.toList)) := by
    intro i c hi
    simp only [pannierref01_Parse.j2]
    cases c
    · rw [if_neg (by simp)]
      exact run (s.size - i) i 0 i k (by omega) (by omega) (by omega) (by omega)
    · rw [if_pos rfl]; exact none_
  have j1 : ∀ i : Nat, i ≤ s.size → ∃ x : Int, ∃ ok : Bool, pannierref01_Parse.j1 (k + 2) s (i : Int) = some (x, ok) ∧ ((x = 0 ∧ ok = false) ∨ (ok = true ∧ I64 x ∧ itoaF x = s.data.toList)) := by
    intro i hi
    simp only [pannierref01_Parse.j1]
    split
    · exact j2 i _ hi
    · exact j2 i _ hi
  unfold pannierref01_Parse.f
  by_cases h : (s.size : Int) > 0
  · rw [if_pos h, if_pos (by omega)]
    simp only [pannierref01_Parse.j0]
    split
    · exact j1 1 (by omega)
    · exact j1 0 (by omega)
  · rw [if_neg h]
    simp only [pannierref01_Parse.j0]
    rw [if_neg (by simp)]
    exact j1 0 (by omega)
/-- Both tell the same of every text. -/
theorem rparse_eq (k : Nat) (s : ByteArray) (hs : s.size ≤ 2000) (hk : 2100 ≤ k) : pannierref01_Parse.f k s = some (M.numParse s.data.toList) := by
  obtain ⟨x, ok, h, ⟨rfl, rfl⟩ | ⟨rfl, hx, he⟩⟩ := rparse_tells k s hs hk
  · rw [h, M.numParse_not]
    intro v h0 h1 hv
    have := rparse_itoa k (by omega) v ⟨h0, h1⟩ s hv
    rw [this] at h; simp at h
  · rw [h, ← he, M.numParse_itoa x hx.1 hx.2]
end Go.Proofs.YtkjfcepggpdokaaRRRRDoor.P

/- Values: good ones, alike ones, what they come to as a text, a number, a truth. -/
namespace Go.Proofs.YtkjfcepggpdokaaRRRRDoor.P
open Go.RowKit Go.Proofs.YtkjfcepggpdokaaRRRRDoorW.PrintWords Go.Proofs.YtkjfcepggpdokaaRRRRDoorW.PrintLast Go.Proofs.YtkjfcepggpdokaaRRRRDoorW.PrintMore
open M (fit I64 u64w dig itoaF)
set_option linter.unusedVariables false
set_option linter.unusedSimpArgs false

def noB : ByteArray := ⟨#[]⟩
theorem noB_list : noB.toList = [] := by rw [ByteArray.toList_eq]; rfl
def goodB (k n : Int) (s : ByteArray) : Bool := (value_Good.f k n s).getD false
theorem vgood_eq (k n : Int) (s : ByteArray) : value_Good.f k n s = some (goodB k n s) := by
  unfold goodB value_Good.f
  repeat' split
  all_goals rfl
def sameB (k n : Int) (s : ByteArray) (k' n' : Int) (s' : ByteArray) : Bool := decide (k = k') && decide (n = n') && (s.toList == s'.toList)
theorem same_eq (k n : Int) (s : ByteArray) (k' n' : Int) (s' : ByteArray) : value_Same.f k n s k' n' s' = some (sameB k n s k' n' s') := by
  unfold value_Same.f sameB
  by_cases h1 : k = k' <;> by_cases h2 : n = n' <;> simp [h1, h2]
theorem same_self (k n : Int) (s : ByteArray) : sameB k n s k n s = true := by unfold sameB; simp
theorem vfail_eq {n : Int} (h0 : 1 ≤ n) (h1 : n ≤ 8) : value_Fail.f n = some (4, n, noB) := by
  unfold value_Fail.f; rw [if_neg (by omega), if_neg (by omega)]; rfl
theorem vof_eq (s : ByteArray) : value_Of.f s = some (if s.size ≤ 200 then (3, 0, s) else (4, 7, noB)) := by
  unfold value_Of.f
  by_cases h : s.size ≤ 200
  · rw [if_neg (by omega), if_pos h]
  · rw [if_pos (by omega), if_neg h, vfail_eq (by omega) (by omega)]; rfl
theorem bytes_eq {s t : ByteArray} (h : s.toList = t.toList) : s = t := by
  rw [ByteArray.toList_eq, ByteArray.toList_eq] at h
  exact ByteArray.ext (Array.toList_inj.1 h)
/-- What a good value is. -/
theorem good_cases {k n : Int} {s : ByteArray} (h : goodB k n s = true) : (k = 0 ∧ n = 0 ∧ s = noB) ∨ (k = 1 ∧ (n = 0 ∨ n = 1) ∧ s = noB) ∨ (k = 2 ∧ s = noB) ∨ (k = 3 ∧ n = 0 ∧ s.size ≤ 200) ∨ (k = 4 ∧ 1 ≤ n ∧ n ≤ 8 ∧ s = noB) := by
  have hb : (s.toList == ([] : List UInt8)) = true → s = noB := fun h => bytes_eq (by rw [noB_list]; simpa using h)
  have hg := vgood_eq k n s
  rw [h] at hg
  unfold value_Good.f at hg
  split at hg
  · rename_i e; subst e
    split at hg
    · rename_i e; exact .inl ⟨rfl, e, hb (by simpa using hg)⟩
    · simp at hg
  · split at hg
    · rename_i e; subst e
      split at hg
      · rename_i e; exact .inr (.inl ⟨rfl, .inl e, hb (by simpa using hg)⟩)
      · split at hg
        · rename_i e; exact .inr (.inl ⟨rfl, .inr e, hb (by simpa using hg)⟩)
        · simp at hg
    · split at hg
      · rename_i e; exact .inr (.inr (.inl ⟨e, hb (by simpa using hg)⟩))
      · split at hg
        · rename_i e
          split at hg
          · rename_i e'; simp at hg; exact .inr (.inr (.inr (.inl ⟨e, e', by omega⟩)))
          · simp at hg
        · split at hg
          · rename_i e
            split at hg
            · split at hg
              · rename_i e1 e2; exact .inr (.inr (.inr (.inr ⟨e, e1, e2, hb (by simpa using hg)⟩)))
              · simp at hg
            · simp at hg
          · simp at hg
theorem good_text {s : ByteArray} (h : s.size ≤ 200) : goodB 3 0 s = true := by
  have := vgood_eq 3 0 s
  unfold value_Good.f at this
  simp at this
  rw [← this]; simp; omega
theorem good_fault {n : Int} (h0 : 1 ≤ n) (h1 : n ≤ 8) : goodB 4 n noB = true := by
  have := vgood_eq 4 n noB
  unfold value_Good.f at this
  simp [h0, h1, noB_list] at this
  exact this
theorem good_int (n : Int) : goodB 2 n noB = true := by
  have := vgood_eq 2 n noB
  unfold value_Good.f at this
  simp [noB_list] at this; exact this
theorem good_bool0 : goodB 1 0 noB = true := by decide +kernel
theorem good_bool1 : goodB 1 1 noB = true := by decide +kernel
/-- A value's hindrance. -/
def faultV (k n : Int) (s : ByteArray) : Int × Int × ByteArray := if goodB k n s = true then (if k = 4 then (k, n, s) else (0, 0, noB)) else (4, 3, noB)
theorem fault_eq (k : Nat) (hk : 1 ≤ k) (t n : Int) (s : ByteArray) : value_fault.f k t n s = some (faultV t n s) := by
  obtain ⟨k, rfl⟩ : ∃ m, k = m + 1 := ⟨k - 1, by omega⟩
  unfold value_fault.f faultV
  by_cases h4 : t = 4
  · rw [if_pos h4, vgood_eq, Option.bind_some, value_fault.j0]
    by_cases hg : goodB t n s = true
    · rw [if_pos hg, if_pos hg, if_pos h4]
    · rw [if_neg hg, if_neg hg, vgood_eq, Option.bind_some, if_neg hg, vfail_eq (by omega) (by omega)]; rfl
  · rw [if_neg h4, value_fault.j0, if_neg (by simp), vgood_eq, Option.bind_some]
    by_cases hg : goodB t n s = true
    · rw [if_pos hg, if_pos hg, if_neg h4]; rfl
    · rw [if_neg hg, if_neg hg, vfail_eq (by omega) (by omega)]; rfl
theorem wakes03 (k : Nat) (hk : 100 ≤ k) : pannierlaw03_wakes.f k = some true :=
  at_rounds pannierlaw03_wakes.mono hk (by decide +kernel)
end Go.Proofs.YtkjfcepggpdokaaRRRRDoor.P

/- What a value comes to as a number, a truth, a text. -/
namespace Go.Proofs.YtkjfcepggpdokaaRRRRDoor.P
open Go.RowKit Go.Proofs.YtkjfcepggpdokaaRRRRDoorW.PrintWords Go.Proofs.YtkjfcepggpdokaaRRRRDoorW.PrintLast Go.Proofs.YtkjfcepggpdokaaRRRRDoorW.PrintMore
open M (fit I64 u64w dig itoaF)
set_option linter.unusedVariables false
set_option linter.unusedSimpArgs false

def showS (k n : Int) (s : ByteArray) : ByteArray := if goodB k n s = true then (if k = 2 then bs (itoaF n) else if k = 1 then (if n = 1 then ⟨#[84, 82, 85, 69]⟩ else ⟨#[70, 65, 76, 83, 69]⟩) else if k = 4 then nm n.toNat else s) else ⟨#[63]⟩
theorem show_eq (k n : Int) (s : ByteArray) (hn : I64 n) : value_Show.f k n s = some (showS k n s) := by
  unfold value_Show.f showS
  rw [vgood_eq, Option.bind_some]
  by_cases hg : goodB k n s = true
  · rw [if_pos hg, if_pos hg]
    by_cases h2 : k = 2
    · rw [if_pos h2, if_pos h2, dec_one n hn]
    · rw [if_neg h2, if_neg h2]
      by_cases h1 : k = 1
      · rw [if_pos h1, if_pos h1]; split <;> rfl
      · rw [if_neg h1, if_neg h1]
        by_cases h4 : k = 4
        · rw [if_pos h4, if_pos h4]
          have : 0 ≤ n ∧ n < 9 := by rcases good_cases hg with h | h | h | h | h <;> omega
          rw [if_pos this]
        · rw [if_neg h4, if_neg h4]
  · rw [if_neg hg, if_neg hg]
def strV (k n : Int) (s : ByteArray) : ByteArray × Int × Int × ByteArray := if goodB k n s = true ∧ k ≠ 4 then (showS k n s, 0, 0, noB) else (noB, faultV k n s)
theorem fault_none {k n : Int} {s : ByteArray} (h : goodB k n s = true) (h4 : k ≠ 4) : faultV k n s = (0, 0, noB) := by unfold faultV; rw [if_pos h, if_neg h4]
theorem fault_some {k n : Int} {s : ByteArray} (h : ¬ (goodB k n s = true ∧ k ≠ 4)) : (faultV k n s).1 = 4 := by
  unfold faultV
  by_cases hg : goodB k n s = true
  · have h4 : k = 4 := by
      by_cases h4 : k = 4
      · exact h4
      · exact absurd ⟨hg, h4⟩ h
    rw [if_pos hg, if_pos h4, h4]
  · rw [if_neg hg]
theorem str_eq (r : Nat) (hr : 1 ≤ r) (k n : Int) (s : ByteArray) (hn : I64 n) : value_Str.f r k n s = some (strV k n s) := by
  unfold value_Str.f strV
  rw [fault_eq r hr, Option.bind_some]
  by_cases h : goodB k n s = true ∧ k ≠ 4
  · rw [if_pos h, fault_none h.1 h.2, if_pos rfl, show_eq k n s hn, Option.bind_some]; rfl
  · have := fault_some h
    rw [if_neg h, if_neg (by omega)]; rfl
def numV (k n : Int) (s : ByteArray) : Int × Int × Int × ByteArray :=
  if goodB k n s = true ∧ k ≠ 4 then (if k = 3 then (if (M.numParse s.data.toList).2 = true then ((M.numParse s.data.toList).1, 0, 0, noB) else (0, 4, 3, noB)) else (n, 0, 0, noB)) else (0, faultV k n s)
theorem num_eq (r : Nat) (hr : 1 ≤ r) (k n : Int) (s : ByteArray) : value_Num.f r k n s = some (numV k n s) := by
  unfold value_Num.f numV
  rw [fault_eq r hr, Option.bind_some]
  by_cases h : goodB k n s = true ∧ k ≠ 4
  · rw [if_pos h, fault_none h.1 h.2, if_pos rfl]
    by_cases h3 : k = 3
    · have hs : s.size ≤ 200 := by rcases good_cases h.1 with h | h | h | h | h <;> omega
      have hp : num_Parse.f s = some (M.numParse s.data.toList) := by unfold num_Parse.f; rw [if_pos (by omega)]
      rw [if_pos h3, if_pos h3, hp, Option.bind_some]
      by_cases hq : (M.numParse s.data.toList).2 = true
      · rw [if_pos hq, if_pos hq]; rfl
      · rw [if_neg hq, if_neg hq, vfail_eq (by omega) (by omega)]; rfl
    · rw [if_neg h3, if_neg h3]; rfl
  · have := fault_some h
    rw [if_neg h, if_neg (by omega)]
def yesS : List UInt8 := [84, 82, 85, 69]
def noS : List UInt8 := [70, 65, 76, 83, 69]
def flagV (k n : Int) (s : ByteArray) : Bool × Int × Int × ByteArray :=
  if goodB k n s = true ∧ k ≠ 4 then (if k = 3 then (if s.toList = yesS then (true, 0, 0, noB) else if s.toList = noS then (n != 0, 0, 0, noB) else (false, 4, 3, noB)) else (n != 0, 0, 0, noB)) else (false, faultV k n s)
theorem flag_eq (r : Nat) (hr : 1 ≤ r) (k n : Int) (s : ByteArray) : value_Flag.f r k n s = some (flagV k n s) := by
  obtain ⟨r, rfl⟩ : ∃ m, r = m + 1 := ⟨r - 1, by omega⟩
  unfold value_Flag.f flagV yesS noS
  rw [fault_eq _ hr, Option.bind_some]
  by_cases h : goodB k n s = true ∧ k ≠ 4
  · rw [if_pos h, fault_none h.1 h.2, if_pos rfl]
    by_cases h3 : k = 3
    · rw [if_pos h3, if_pos h3]
      by_cases hy : s.toList = ([84, 82, 85, 69] : List UInt8)
      · rw [if_pos hy, show (s.toList == [84, 82, 85, 69]) = true by simpa using hy, value_Flag.j0, if_pos rfl]; rfl
      · rw [if_neg hy, show (s.toList == [84, 82, 85, 69]) = false by simpa using hy, value_Flag.j0, if_neg (by simp), if_pos h3]
        by_cases hz : s.toList = ([70, 65, 76, 83, 69] : List UInt8)
        · rw [if_pos hz, if_pos hz]; rfl
        · rw [if_neg hz, if_neg hz, vfail_eq (by omega) (by omega)]; rfl
    · rw [if_neg h3, if_neg h3, value_Flag.j0, if_neg (by simp), if_neg h3]; rfl
  · have := fault_some h
    rw [if_neg h, if_neg (by omega)]
end Go.Proofs.YtkjfcepggpdokaaRRRRDoor.P

/- The order of values. -/
namespace Go.Proofs.YtkjfcepggpdokaaRRRRDoor.P
open Go.RowKit Go.Proofs.YtkjfcepggpdokaaRRRRDoorW.PrintWords Go.Proofs.YtkjfcepggpdokaaRRRRDoorW.PrintLast Go.Proofs.YtkjfcepggpdokaaRRRRDoorW.PrintMore
open M (fit I64 u64w dig itoaF)
set_option linter.unusedVariables false
set_option linter.unusedSimpArgs false

def sgn (a b : Int) : Int := if a < b then -1 else if a > b then 1 else 0
theorem cmp_int_eq (a b : Int) : cmp_Compare_int.f a b = some (sgn a b) := by
  unfold cmp_Compare_int.f cmp_isNaN_int.f sgn
  simp only [bne_self_eq_false, Option.bind_some, Bool.false_eq_true, if_false]
  split
  · rfl
  · split <;> rfl
theorem cmp_int64_eq (a b : Int) : cmp_Compare_int64.f a b = some (sgn a b) := by
  unfold cmp_Compare_int64.f cmp_isNaN_int64.f sgn
  simp only [bne_self_eq_false, Option.bind_some, Bool.false_eq_true, if_false]
  split
  · rfl
  · split <;> rfl
def or3 (a b c : Int) : Int := if a = 0 then (if b = 0 then c else b) else a
theorem or3_eq (k : Nat) (hk : 5 ≤ k) (a b c : Int) : cmp_Or_int.f k [a, b, c] = some (or3 a b c) := by
  obtain ⟨k, rfl⟩ : ∃ m, k = m + 4 := ⟨k - 4, by omega⟩
  have w1 : wrap64 (1 : Int) = 1 := by unfold wrap64; decide
  have w2 : wrap64 (2 : Int) = 2 := by unfold wrap64; decide
  have w3 : wrap64 (3 : Int) = 3 := by unfold wrap64; decide
  unfold cmp_Or_int.f or3
  by_cases ha : a = 0 <;> by_cases hb : b = 0 <;> by_cases hc : c = 0 <;> simp [cmp_Or_int.l0, rd, w1, w2, w3, ha, hb, hc]
def rankV (k : Int) : Int := if k = 1 then 3 else if k = 3 then 2 else if k = 2 then 1 else 0
theorem rank_eq (k n : Int) (s : ByteArray) : value_rank.f k n s = some (rankV k) := by
  unfold value_rank.f rankV
  split
  · rfl
  · split
    · rfl
    · split <;> rfl
def cmpV (k n : Int) (s : ByteArray) (k' n' : Int) (s' : ByteArray) : Int := or3 (sgn (rankV k) (rankV k')) (sgn n n') (Lib.compareBytes s.data.toList s'.data.toList)
def mayV (k n : Int) (s : ByteArray) : Bool := goodB k n s && decide (k ≠ 4)
def compareV (k n : Int) (s : ByteArray) (k' n' : Int) (s' : ByteArray) : Int × Bool := if mayV k n s = true ∧ mayV k' n' s' = true then (cmpV k n s k' n' s', true) else (0, false)
theorem vcompare_eq (r : Nat) (hr : 6 ≤ r) (k n : Int) (s : ByteArray) (k' n' : Int) (s' : ByteArray) : value_Compare.f r k n s k' n' s' = some (compareV k n s k' n' s') := by
  obtain ⟨r, rfl⟩ : ∃ m, r = m + 1 := ⟨r - 1, by omega⟩
  have no : value_Compare.j0 (r + 1) true k n s k' n' s' = some (0, false) := by rw [value_Compare.j0, if_pos rfl]
  unfold value_Compare.f compareV mayV
  rw [vgood_eq, Option.bind_some, vgood_eq, Option.bind_some]
  by_cases h1 : goodB k n s = true
  · by_cases h2 : goodB k' n' s' = true
    · by_cases h3 : k = 4
      · rw [if_pos h1, if_pos h2, if_pos h3, no, if_neg (by simp [h3])]
      · by_cases h4 : k' = 4
        · rw [if_pos h1, if_pos h2, if_neg h3, show (k' == 4) = true by simp [h4], no, if_neg (by simp [h4])]
        · rw [if_pos h1, if_pos h2, if_neg h3, show (k' == 4) = false by simp [h4], value_Compare.j0, if_neg (by simp), rank_eq, Option.bind_some, rank_eq, Option.bind_some, cmp_int_eq, Option.bind_some, cmp_int64_eq, Option.bind_some]
          unfold strings_Compare.f
          rw [Option.bind_some, or3_eq r (by omega), Option.bind_some, if_pos (by simp [h1, h2, h3, h4])]
          rfl
    · rw [if_pos h1, if_neg h2, no, if_neg (by simp [h2])]
  · rw [if_neg h1, no, if_neg (by simp [h1])]
theorem sgn_turn (a b : Int) : sgn b a = - sgn a b := by unfold sgn; repeat' split <;> omega
theorem sgn_zero (a b : Int) : sgn a b = 0 ↔ a = b := by
  unfold sgn
  split
  · constructor <;> intro h <;> omega
  · split
    · constructor <;> intro h <;> omega
    · constructor <;> intro h <;> omega
theorem sgn_range (a b : Int) : sgn a b = -1 ∨ sgn a b = 0 ∨ sgn a b = 1 := by 
  unfold sgn
  split
  · exact .inl rfl
  · split
    · exact .inr (.inr rfl)
    · exact .inr (.inl rfl)
theorem sgn_le (a b : Int) : sgn a b ≤ 0 ↔ a ≤ b := by
  unfold sgn
  split
  · constructor <;> intro h <;> omega
  · split
    · constructor <;> intro h <;> omega
    · constructor <;> intro h <;> omega
theorem cmpV_turn (k n : Int) (s : ByteArray) (k' n' : Int) (s' : ByteArray) : cmpV k' n' s' k n s = - cmpV k n s k' n' s' := by
  unfold cmpV or3
  rw [sgn_turn (rankV k) (rankV k'), sgn_turn n n', cmp_turn s.data.toList s'.data.toList]
  repeat' split
  all_goals omega
theorem compareV_turn (k n : Int) (s : ByteArray) (k' n' : Int) (s' : ByteArray) : compareV k' n' s' k n s = (-(compareV k n s k' n' s').1, (compareV k n s k' n' s').2) := by
  unfold compareV
  rw [cmpV_turn]
  by_cases h1 : mayV k n s = true <;> by_cases h2 : mayV k' n' s' = true <;> simp [h1, h2]
theorem rank_inj {k k' : Int} (h : k = 0 ∨ k = 1 ∨ k = 2 ∨ k = 3) (h' : k' = 0 ∨ k' = 1 ∨ k' = 2 ∨ k' = 3) : rankV k = rankV k' ↔ k = k' := by
  rcases h with rfl | rfl | rfl | rfl <;> rcases h' with rfl | rfl | rfl | rfl <;> simp [rankV]
theorem may_kind {k n : Int} {s : ByteArray} (h : mayV k n s = true) : k = 0 ∨ k = 1 ∨ k = 2 ∨ k = 3 := by
  unfold mayV at h
  simp at h
  rcases good_cases h.1 with h | h | h | h | h <;> omega
theorem bytes_data {s t : ByteArray} : s.data.toList = t.data.toList ↔ s.toList = t.toList := by rw [ByteArray.toList_eq, ByteArray.toList_eq]
theorem or3_zero (a b c : Int) : or3 a b c = 0 ↔ a = 0 ∧ b = 0 ∧ c = 0 := by
  unfold or3
  by_cases ha : a = 0 <;> by_cases hb : b = 0 <;> simp [ha, hb]
theorem cmpV_zero {k n : Int} {s : ByteArray} {k' n' : Int} {s' : ByteArray} (h : mayV k n s = true) (h' : mayV k' n' s' = true) : cmpV k n s k' n' s' = 0 ↔ sameB k n s k' n' s' = true := by
  unfold cmpV sameB
  rw [or3_zero, sgn_zero, sgn_zero, rank_inj (may_kind h) (may_kind h'), cmp_zero, bytes_data]
  simp [and_assoc]
theorem or3_le {a b c : Int} (h : or3 a b c ≤ 0) : a < 0 ∨ (a = 0 ∧ b < 0) ∨ (a = 0 ∧ b = 0 ∧ c ≤ 0) := by
  unfold or3 at h
  by_cases ha : a = 0
  · by_cases hb : b = 0
    · rw [if_pos ha, if_pos hb] at h; exact .inr (.inr ⟨ha, hb, h⟩)
    · rw [if_pos ha, if_neg hb] at h; exact .inr (.inl ⟨ha, by omega⟩)
  · rw [if_neg ha] at h; exact .inl (by omega)
theorem le_or3 {a b c : Int} (h : a < 0 ∨ (a = 0 ∧ b < 0) ∨ (a = 0 ∧ b = 0 ∧ c ≤ 0)) : or3 a b c ≤ 0 := by
  unfold or3
  rcases h with h | ⟨h, h'⟩ | ⟨h, h', h''⟩
  · rw [if_neg (by omega)]; omega
  · rw [if_pos h, if_neg (by omega)]; omega
  · rw [if_pos h, if_pos h']; exact h''
theorem sgn_neg (a b : Int) : sgn a b < 0 ↔ a < b := by
  unfold sgn
  split
  · constructor <;> intro h <;> omega
  · split
    · constructor <;> intro h <;> omega
    · constructor <;> intro h <;> omega
theorem cmpV_over (k n : Int) (s : ByteArray) (k' n' : Int) (s' : ByteArray) (q m : Int) (t : ByteArray) (h : cmpV k n s k' n' s' ≤ 0) (h' : cmpV k' n' s' q m t ≤ 0) : cmpV k n s q m t ≤ 0 := by
  unfold cmpV at h h' ⊢
  apply le_or3
  have h := or3_le h
  have h' := or3_le h'
  rw [sgn_neg, sgn_zero, sgn_neg, sgn_zero] at h h' ⊢
  rcases h with h | ⟨h1, h2⟩ | ⟨h1, h2, h3⟩ <;> rcases h' with h' | ⟨g1, g2⟩ | ⟨g1, g2, g3⟩
  · exact .inl (by omega)
  · exact .inl (by omega)
  · exact .inl (by omega)
  · exact .inl (by omega)
  · exact .inr (.inl ⟨by omega, by omega⟩)
  · exact .inr (.inl ⟨by omega, by omega⟩)
  · exact .inl (by omega)
  · exact .inr (.inl ⟨by omega, by omega⟩)
  · exact .inr (.inr ⟨by omega, by omega, cmp_over _ _ _ h3 g3⟩)
/-- Alike to the second, each is to the third as the second is. -/
theorem cmpV_alike {k n : Int} {s : ByteArray} {k' n' : Int} {s' : ByteArray} (q m : Int) (t : ByteArray) (h : mayV k n s = true) (h' : mayV k' n' s' = true) (e : cmpV k n s k' n' s' = 0) : cmpV k n s q m t = cmpV k' n' s' q m t := by
  have := (cmpV_zero h h').1 e
  unfold sameB at this
  simp at this
  obtain ⟨⟨rfl, rfl⟩, h3⟩ := this
  rw [bytes_eq h3]
end Go.Proofs.YtkjfcepggpdokaaRRRRDoor.P

/- ValueFaults, as a plain fact. -/
namespace Go.Proofs.YtkjfcepggpdokaaRRRRDoor.P
open Go.RowKit Go.Proofs.YtkjfcepggpdokaaRRRRDoorW.PrintWords Go.Proofs.YtkjfcepggpdokaaRRRRDoorW.PrintLast Go.Proofs.YtkjfcepggpdokaaRRRRDoorW.PrintMore
open M (fit I64 u64w dig itoaF)
set_option linter.unusedVariables false
set_option linter.unusedSimpArgs false

theorem fault_self {n : Int} (h0 : 1 ≤ n) (h1 : n ≤ 8) : faultV 4 n noB = (4, n, noB) := by unfold faultV; rw [if_pos (good_fault h0 h1), if_pos rfl]
theorem not_may (n : Int) (s : ByteArray) : ¬ (goodB 4 n s = true ∧ (4 : Int) ≠ 4) := fun h => h.2 rfl
theorem show_fault {n : Int} (h0 : 1 ≤ n) (h1 : n ≤ 8) : showS 4 n noB = nm n.toNat := by
  unfold showS; rw [if_pos (good_fault h0 h1), if_neg (by decide), if_neg (by decide), if_pos rfl]
theorem nm_inj {a b : Int} (h0 : 1 ≤ a) (h1 : a ≤ 8) (g0 : 1 ≤ b) (g1 : b ≤ 8) : ((nm a.toNat).toList == (nm b.toNat).toList) = sameB 4 a noB 4 b noB := by
  have key : ∀ x y : Fin 9, ((nm x.val).data.toList == (nm y.val).data.toList) = decide (x.val = y.val ∨ (x.val = 0 ∧ y.val = 0)) := by decide +kernel
  have := key ⟨a.toNat, by omega⟩ ⟨b.toNat, by omega⟩
  rw [ByteArray.toList_eq, ByteArray.toList_eq, this]
  unfold sameB
  by_cases e : a = b
  · subst e; simp
  · have h : ¬ (a.toNat = b.toNat ∨ (a.toNat = 0 ∧ b.toNat = 0)) := by omega
    simp [e]; omega
theorem compare_fault (n : Int) (s : ByteArray) (q m : Int) (t : ByteArray) : compareV 4 n s q m t = (0, false) := by
  unfold compareV mayV; rw [if_neg (by simp)]
theorem compare_fault' (n : Int) (s : ByteArray) (q m : Int) (t : ByteArray) : compareV q m t 4 n s = (0, false) := by
  unfold compareV mayV; rw [if_neg (by simp)]
theorem code_of (a : Int) (ha : 0 ≤ a ∧ a ≤ 255) : wrap64 (1 + Int.tmod (wrap64 a) 8) = 1 + a % 8 := by
  rw [M.wrap64_id (n := a) (by unfold I64; omega), Int.tmod_eq_emod_of_nonneg (by omega), M.wrap64_id (by unfold I64; omega)]
theorem ValueFaults_pure (a b : Int) (q m : Int) (t : ByteArray) (ha : (Lit.int .u8 a).wf = true) (hb : (Lit.int .u8 b).wf = true) : ∃ r, pannierlaw03_ValueFaults.f r a b q m t = some true := by
  have ha : 0 ≤ a ∧ a ≤ 255 := by simp [Lit.wf, IntKind.min, IntKind.max, IntKind.signed, IntKind.bits] at ha; omega
  have hb : 0 ≤ b ∧ b ≤ 255 := by simp [Lit.wf, IntKind.min, IntKind.max, IntKind.signed, IntKind.bits] at hb; omega
  obtain ⟨x, hx, hx0, hx1⟩ : ∃ x : Int, 1 + a % 8 = x ∧ 1 ≤ x ∧ x ≤ 8 := ⟨_, rfl, by omega, by omega⟩
  obtain ⟨y, hy, hy0, hy1⟩ : ∃ y : Int, 1 + b % 8 = y ∧ 1 ≤ y ∧ y ≤ 8 := ⟨_, rfl, by omega, by omega⟩
  refine ⟨101, ?_⟩
  unfold pannierlaw03_ValueFaults.f pannierlaw03_large.f
  rw [Option.bind_some]
  split
  · rw [wakes03 _ (by omega), Option.bind_some]
  · have n1 : numV 4 x noB = (0, 4, x, noB) := by unfold numV; rw [if_neg (not_may x noB), fault_self hx0 hx1]
    have n2 : flagV 4 x noB = (false, 4, x, noB) := by unfold flagV; rw [if_neg (not_may x noB), fault_self hx0 hx1]
    have n3 : strV 4 x noB = (noB, 4, x, noB) := by unfold strV; rw [if_neg (not_may x noB), fault_self hx0 hx1]
    have ix : I64 x := by unfold I64; omega
    have iy : I64 y := by unfold I64; omega
    have f0 : value_Fail.f 0 = some (0, 0, noB) := rfl
    have f9 : value_Fail.f 9 = some (0, 0, noB) := rfl
    rw [code_of a ha, code_of b hb, hx, hy, vfail_eq hx0 hx1, Option.bind_some, vfail_eq hy0 hy1, Option.bind_some]
    simp only []
    rw [num_eq _ (by omega), n1, Option.bind_some, flag_eq _ (by omega), n2, Option.bind_some, str_eq _ (by omega) _ _ _ ix, n3, Option.bind_some, vcompare_eq _ (by omega), compare_fault, Option.bind_some, vcompare_eq _ (by omega), compare_fault', Option.bind_some]
    simp only []
    rw [same_eq, same_self, Option.bind_some, if_pos rfl, Option.bind_some, if_pos rfl, Option.bind_some, if_pos rfl, if_neg (by simp), if_neg (by simp), show_eq _ _ _ ix, Option.bind_some, show_eq _ _ _ iy, Option.bind_some, show_fault hx0 hx1, show_fault hy0 hy1, same_eq, Option.bind_some, nm_inj hx0 hx1 hy0 hy1, if_pos (by simp), vgood_eq, good_fault hx0 hx1, Option.bind_some, if_pos rfl, f0, Option.bind_some, if_pos rfl, f9, Option.bind_some, if_pos rfl, wakes03 _ (by omega), Option.bind_some]
end Go.Proofs.YtkjfcepggpdokaaRRRRDoor.P
