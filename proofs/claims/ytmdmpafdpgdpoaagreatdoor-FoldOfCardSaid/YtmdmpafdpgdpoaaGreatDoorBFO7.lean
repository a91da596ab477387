/- Contracts of the functions that the law reaches, each with the plain function that it comes to, and plain facts about these. -/
import Derived.Laws.Strings
import Derived.Laws.Bits64
import Derived.Laws.Bits64b
import Derived.Test.YtmdmpafdpgdpoaaGreatDoorBFO2
import Derived.Test.YtmdmpafdpgdpoaaGreatDoorBFO3
import Derived.Test.YtmdmpafdpgdpoaaGreatDoorBFO4
import Derived.Test.YtmdmpafdpgdpoaaGreatDoorBFO5
import Derived.Test.YtmdmpafdpgdpoaaGreatDoorBFO6
namespace Go.Proofs.YtmdmpafdpgdpoaaGreatDoor.P
open Go.RowKit Go.Proofs.YtmdmpafdpgdpoaaGreatDoorW.PrintWords Go.Proofs.YtmdmpafdpgdpoaaGreatDoorW.PrintLast Go.Proofs.YtmdmpafdpgdpoaaGreatDoorW.PrintMore
open M (fit I64 u64w dig itoaF)
set_option linter.unusedVariables false
set_option linter.unusedSimpArgs false
theorem digit_piece (d : Nat) (h : d < 10) : (⟨#[48, 49, 50, 51, 52, 53, 54, 55, 56, 57]⟩ : ByteArray).extract d (d + 1) = bs [UInt8.ofNat (48 + d)] := by
  have : ∀ d : Fin 10, ((⟨#[48, 49, 50, 51, 52, 53, 54, 55, 56, 57]⟩ : ByteArray).extract d.val (d.val + 1)).data = #[UInt8.ofNat (48 + d.val)] := by decide +kernel
  exact ByteArray.ext (this ⟨d, h⟩)
theorem digits_loop : ∀ (n u i k : Nat) (l : List UInt8), 0 < n → u < 10 ^ n → i + n ≤ 20 → l.length + n ≤ 1000 → n < k → u < 18446744073709551616 →
    pannierref01_digits.l0 k (u : Int) (bs l) (i : Int) = some (bs (dig n u ++ l)) := by
  intro n
  induction n with
  | zero => intro u i k l h; omega
  | succ n ih =>
    intro u i k l _ hu hi hl hk h64
    obtain ⟨k, rfl⟩ : ∃ m, k = m + 1 := ⟨k - 1, by omega⟩
    have hw : wrap64 ((i : Int) + 1) = ((i + 1 : Nat) : Int) := by rw [M.wrap64_id (by unfold I64; omega)]; omega
    have e1 : Int.tmod (u : Int) 10 = ((u % 10 : Nat) : Int) := by rw [show (10 : Int) = ((10 : Nat) : Int) from rfl, ← Int.ofNat_tmod]
    have e2 : Int.tdiv (u : Int) 10 = ((u / 10 : Nat) : Int) := by rw [show (10 : Int) = ((10 : Nat) : Int) from rfl, ← Int.ofNat_tdiv]
    have e3 : IntKind.u64.wrap (((u % 10 : Nat) : Int) + 1) = ((u % 10 + 1 : Nat) : Int) := by rw [u64w]; omega
    have e4 : IntKind.u64.wrap ((u / 10 : Nat) : Int) = ((u / 10 : Nat) : Int) := by rw [u64w]; omega
    have e5 := digit_piece (u % 10) (Nat.mod_lt _ (by omega))
    simp only [pannierref01_digits.l0]
    rw [e1, e2, e3, e4, hw, Int.toNat_natCast, Int.toNat_natCast, e5, bs_append]
    rw [if_pos (by omega), if_pos (by omega), if_pos (by omega), if_pos (by omega), if_pos (by rw [bs_size, bs_size]; simp; omega)]
    by_cases h0 : u < 10
    · rw [if_pos (by omega), dig, if_pos h0, show u % 10 = u by omega]
    · rw [if_neg (by omega), dig, if_neg h0]
      have hn : 0 < n := by
        rcases Nat.eq_zero_or_pos n with rfl | h
        · simp at hu; omega
        · exact h
      rw [ih (u / 10) (i + 1) k _ hn (by rw [Nat.pow_succ] at hu; omega) (by omega) (by simp; omega) (by omega) (by omega)]
      simp
theorem digits_eq (k u : Nat) (hk : 21 ≤ k) (hu : u < 18446744073709551616) : pannierref01_digits.f k (u : Int) = some (bs (dig 20 u)) := by
  unfold pannierref01_digits.f
  have := digits_loop 20 u 0 k [] (by omega) (by omega) (by omega) (by simp) (by omega) hu
  rw [List.append_nil] at this
  exact this
theorem rdec_eq (k : Nat) (hk : 21 ≤ k) (a : Int) (ha : I64 a) : pannierref01_Dec.f k a = some (bs (itoaF a)) := by
  unfold pannierref01_Dec.f itoaF
  have hl := M.dig_length 20 a.natAbs
  unfold I64 at ha
  by_cases h : a < 0
  · rw [if_pos h, whole_eq a ha, Option.bind_some, digits_eq k _ hk (by omega), Option.bind_some, if_pos (by rw [bs_size]; omega), if_pos h]
    rw [show (⟨#[45]⟩ : ByteArray) = bs [45] from rfl, bs_append]; rfl
  · rw [if_neg h, whole_eq a ha, Option.bind_some, digits_eq k _ hk (by omega), Option.bind_some, if_neg h, show a.natAbs = a.toNat by omega]
theorem bt_list (s : ByteArray) (i : Nat) (h : i < s.data.toList.length) : bt s (i : Int) = ((s.data.toList[i]).toNat : Int) := by
  unfold bt
  rw [dif_pos (by simpa using h)]
  rfl
theorem itoa_short (a : Int) : (itoaF a).length ≤ 21 := by
  unfold itoaF
  have h1 := M.dig_length 20 a.natAbs
  have h2 := M.dig_length 20 a.toNat
  split <;> simp <;> omega
theorem l0_at (k : Nat) (s : ByteArray) (f u : Int) (i : Nat) (h : i < s.data.toList.length) (c : UInt8) (hc : s.data.toList[i] = c) :
    pannierref01_Parse.l0 (k + 1) s f u (i : Int) = if (c.toNat : Int) < 48 then some (0, false) else if (c.toNat : Int) > 57 then some (0, false) else if u > 922337203685477580 then some (0, false) else
      pannierref01_Parse.l0 k s f (IntKind.u64.wrap ((IntKind.u64.wrap (u * 10)) + (((c.toNat : Int) - 48) % 256))) (wrap64 ((i : Int) + 1)) := by
  have hs : s.data.toList.length = s.size := by simp
  simp only [pannierref01_Parse.l0]
  rw [if_pos (by omega), if_pos (by omega), bt_list s i h, hc]
theorem parse_end (k : Nat) (hk : 25 ≤ k) (s : ByteArray) (neg : Bool) (v : Int) (u : Int) (hv : I64 v) (h0 : 0 ≤ u) (h1 : u < 18446744073709551616) (hu : v = if neg = true then -u else u) (hs : itoaF v = s.data.toList) :
    pannierref01_Parse.l0 k s (if neg = true then 1 else 0) u (s.size : Int) = some (v, true) := by
  obtain ⟨k, rfl⟩ : ∃ m, k = m + 2 := ⟨k - 2, by omega⟩
  simp only [pannierref01_Parse.l0]
  rw [if_neg (by omega), show ((if neg = true then (1 : Int) else 0) == 1) = neg by cases neg <;> rfl, rsigned_eq _ _ _ h0 h1, ← hu, M.fit_in hv, Option.bind_some, if_pos rfl, rdec_eq _ (by omega) v hv, Option.bind_some, if_pos]
  rw [bs_toList, ByteArray.toList_eq, hs]
theorem parse_run (s : ByteArray) (neg : Bool) (v : Int) (hv : I64 v) (hs : itoaF v = s.data.toList) :
    ∀ (r : List UInt8) (i : Nat) (u k : Nat), s.data.toList.drop i = r → i + r.length = s.size → (∀ c ∈ r, 48 ≤ c.toNat ∧ c.toNat ≤ 57) → M.val u r ≤ 9223372036854775808 →
      v = (if neg = true then -((M.val u r : Nat) : Int) else ((M.val u r : Nat) : Int)) → r.length + 26 ≤ k →
      pannierref01_Parse.l0 k s (if neg = true then 1 else 0) (u : Int) (i : Int) = some (v, true)
  | [], i, u, k, hd, hi, _, hb, hvv, hk => by
    have e : i = s.size := by simpa using hi
    rw [e]
    have hb' : u ≤ 9223372036854775808 := hb
    have hv2 : v = if neg = true then -(u : Int) else (u : Int) := hvv
    have hk' : 25 ≤ k := by simp at hk; omega
    clear hb hvv hk hi hd
    exact parse_end k hk' s neg v u hv (by omega) (by omega) hv2 hs
  | c :: r, i, u, k, hd, hi, hdig, hb, hvv, hk => by
    obtain ⟨k, rfl⟩ : ∃ m, k = m + 1 := ⟨k - 1, by simp at hk; omega⟩
    have hlen : i < s.data.toList.length := by simp at hi ⊢; omega
    have hc : s.data.toList[i] = c := by
      have h1 : (s.data.toList.drop i)[0]? = some c := by rw [hd]; rfl
      rw [List.getElem?_drop, Nat.add_zero] at h1
      exact (List.getElem?_eq_some_iff.mp h1).2
    have hg := M.val_ge r (u * 10 + (c.toNat - 48))
    have hcd := hdig c (by simp)
    have hb' : M.val (u * 10 + (c.toNat - 48)) r ≤ 9223372036854775808 := hb
    have hw : wrap64 ((i : Int) + 1) = ((i + 1 : Nat) : Int) := by
      have : s.data.toList.length = (itoaF v).length := by rw [hs]
      have := itoa_short v
      rw [M.wrap64_id (by unfold I64; omega)]; omega
    rw [l0_at k s _ _ i hlen c hc, if_neg (by omega), if_neg (by omega), if_neg (by omega), hw, u64w, u64w]
    rw [show ((u : Int) * 10 % 18446744073709551616 + ((c.toNat : Int) - 48) % 256) % 18446744073709551616 = ((u * 10 + (c.toNat - 48) : Nat) : Int) by omega]
    exact parse_run s neg v hv hs r (i + 1) _ k (by rw [← List.drop_drop, hd]; rfl) (by simp at hi; omega) (fun x hx => hdig x (by simp [hx])) hb' hvv (by simp at hk; omega)
theorem rparse_itoa (k : Nat) (hk : 60 ≤ k) (v : Int) (hv : I64 v) (s : ByteArray) (hs : itoaF v = s.data.toList) : pannierref01_Parse.f k s = some (v, true) := by
  have hshort := itoa_short v
  have hlen : s.data.toList.length = s.size := by simp
  have hsz : (itoaF v).length = s.size := by rw [hs, hlen]
  have hpos : 0 < (itoaF v).length := by
    unfold itoaF; split
    · simp
    · have := M.dig_ne 20 v.toNat (by omega); exact List.length_pos_iff.mpr this
  obtain ⟨k, rfl⟩ : ∃ m, k = m + 3 := ⟨k - 3, by omega⟩
  unfold pannierref01_Parse.f
  rw [if_pos (by omega), if_pos (by omega)]
  have hb0 : bt s 0 = ((s.data.toList[0]'(by omega)).toNat : Int) := bt_list s 0 (by omega)
  have huv : I64 v := hv
  unfold I64 at hv
  by_cases h : v < 0
  · have he : itoaF v = 45 :: dig 20 v.natAbs := by unfold itoaF; rw [if_pos h]
    have h45 : s.data.toList[0]'(by omega) = 45 := by simp [← hs, he]
    rw [hb0, h45]
    have hdl : (dig 20 v.natAbs).length + 1 = s.size := by rw [← hsz, he]; simp
    have hdn := M.dig_ne 20 v.natAbs (by omega)
    have hdp : 0 < (dig 20 v.natAbs).length := List.length_pos_iff.mpr hdn
    have hd19 : s.size ≤ 20 := by
      have : (dig 20 v.natAbs) = dig 19 v.natAbs := by rw [M.dig_eq 20 _ (by omega) (by omega), M.dig_eq 19 _ (by omega) (by omega)]
      have := M.dig_length 19 v.natAbs
      rw [‹dig 20 v.natAbs = dig 19 v.natAbs›] at hdl
      omega
    have hval := M.val_dig 20 v.natAbs (by omega)
    simp only [pannierref01_Parse.j0, pannierref01_Parse.j1, pannierref01_Parse.j2]
    rw [if_pos (by decide), if_neg (by omega), if_neg (by simp; omega)]
    exact parse_run s true v huv hs (dig 20 v.natAbs) 1 0 k (by rw [← hs, he]; rfl) (by omega) (M.dig_digits _ _) (by rw [hval]; omega) (by rw [hval]; simp; omega) (by omega)
  · have he : itoaF v = dig 20 v.toNat := by unfold itoaF; rw [if_neg h]
    have hd19 : (dig 20 v.toNat).length ≤ 20 := M.dig_length 20 _
    have hval := M.val_dig 20 v.toNat (by omega)
    have hne : ¬ (bt s 0 == 45) = true := by
      rw [hb0]
      have : 48 ≤ (s.data.toList[0]'(by omega)).toNat := (M.dig_digits 20 v.toNat _ (by rw [← he, hs]; exact List.getElem_mem _)).1
      rw [beq_iff_eq]; omega
    have hne' : (bt s 0 == 45) = false := by simpa using hne
    rw [hne']
    simp only [pannierref01_Parse.j0, pannierref01_Parse.j1, pannierref01_Parse.j2]
    rw [if_neg (by simp), if_neg (by omega), if_neg (by rw [he] at hsz; simp; omega)]
    exact parse_run s false v huv hs (dig 20 v.toNat) 0 0 k (by rw [← hs, he]; rfl) (by rw [← hsz, he]; omega) (M.dig_digits _ _) (by rw [hval]; omega) (by rw [hval]; simp; omega) (by omega)
theorem rparse_tells (k : Nat) (s : ByteArray) (hs : s.size ≤ 2000) (hk : 2100 ≤ k) : ∃ x : Int, ∃ ok : Bool, pannierref01_Parse.f k s = some (x, ok) ∧ ((x = 0 ∧ ok = false) ∨ (ok = true ∧ I64 x ∧ itoaF x = s.data.toList)) := by
  have hlen : s.data.toList.length = s.size := by simp
  have run : ∀ (d i : Nat) (u f : Int) (k : Nat), i + d = s.size → 0 ≤ u → u < 18446744073709551616 → d + 26 ≤ k → ∃ x : Int, ∃ ok : Bool, pannierref01_Parse.l0 k s f u (i : Int) = some (x, ok) ∧ ((x = 0 ∧ ok = false) ∨ (ok = true ∧ I64 x ∧ itoaF x = s.data.toList)) := by
    intro d
    induction d with
    | zero =>
      intro i u f k hi h0 h1 hk
      obtain ⟨k, rfl⟩ : ∃ m, k = m + 2 := ⟨k - 2, by omega⟩
      simp only [pannierref01_Parse.l0]
      rw [if_neg (by omega), rsigned_eq _ _ _ h0 h1, Option.bind_some]
      by_cases hin : I64 (if (f == 1) = true then -u else u)
      · rw [M.fit_in hin, if_pos rfl, rdec_eq _ (by omega) _ hin, Option.bind_some, bs_toList, ByteArray.toList_eq]
        by_cases he : itoaF (if (f == 1) = true then -u else u) = s.data.toList
        · rw [if_pos he]; exact ⟨_, _, rfl, .inr ⟨rfl, hin, he⟩⟩
        · rw [if_neg he]; exact ⟨_, _, rfl, .inl ⟨rfl, rfl⟩⟩
      · rw [M.fit_out hin, if_neg (by simp)]; exact ⟨_, _, rfl, .inl ⟨rfl, rfl⟩⟩
    | succ d ih =>
      intro i u f k hi h0 h1 hk
      obtain ⟨k, rfl⟩ : ∃ m, k = m + 1 := ⟨k - 1, by omega⟩
      rw [l0_at k s f u i (by omega) _ rfl]
      have hw : wrap64 ((i : Int) + 1) = ((i + 1 : Nat) : Int) := by rw [M.wrap64_id (by unfold I64; omega)]; omega
      rw [hw]
      split
      · exact ⟨_, _, rfl, .inl ⟨rfl, rfl⟩⟩
      · split
        · exact ⟨_, _, rfl, .inl ⟨rfl, rfl⟩⟩
        · split
          · exact ⟨_, _, rfl, .inl ⟨rfl, rfl⟩⟩
          · refine ih (i + 1) _ f k (by omega) ?_ ?_ (by omega)
            · rw [u64w]; omega
            · rw [u64w]; omega
  have none_ : ∃ x : Int, ∃ ok : Bool, (some ((0 : Int), false)) = some (x, ok) ∧ ((x = 0 ∧ ok = false) ∨ (ok = true ∧ I64 x ∧ itoaF x = s.data.toList)) := ⟨0, false, rfl, .inl ⟨rfl, rfl⟩⟩
  obtain ⟨k, rfl⟩ : ∃ m, k = m + 3 := ⟨k - 3, by omega⟩
  have j2 : ∀ (i : Nat) (c : Bool), i ≤ s.size → ∃ x : Int, ∃ ok : Bool, pannierref01_Parse.j2 (k + 1) s (i : Int) c = some (x, ok) ∧ ((x = 0 ∧ ok = false) ∨ (ok = true ∧ I64 x ∧ itoaF x = s.data.toList)) := by
    intro i c hi
    simp only [pannierref01_Parse.j2]
    cases c
    · rw [if_neg (by simp)]
      exact run (s.size - i) i 0 i k (by omega) (by omega) (by omega) (by omega)
    · rw [if_pos rfl]; exact none_
  have j1 : ∀ i : Nat, i ≤ s.size → ∃ x : Int, ∃ ok : Bool, pannierref01_Parse.j1 (k + 2) s (i : Int) = some (x, ok) ∧ ((x = 0 ∧ ok = false) ∨ (ok = true ∧ I64 x ∧ itoaF x = s.data.toList)) := by
    intro i hi
    simp only [pannierref01_Parse.j1]
    split
    · exact j2 i _ hi
    · exact j2 i _ hi
  unfold pannierref01_Parse.f
  by_cases h : (s.size : Int) > 0
  · rw [if_pos h, if_pos (by omega)]
    simp only [pannierref01_Parse.j0]
    split
    · exact j1 1 (by omega)
    · exact j1 0 (by omega)
  · rw [if_neg h]
    simp only [pannierref01_Parse.j0]
    rw [if_neg (by simp)]
    exact j1 0 (by omega)
theorem rparse_eq (k : Nat) (s : ByteArray) (hs : s.size ≤ 2000) (hk : 2100 ≤ k) : pannierref01_Parse.f k s = some (M.numParse s.data.toList) := by
  obtain ⟨x, ok, h, ⟨rfl, rfl⟩ | ⟨rfl, hx, he⟩⟩ := rparse_tells k s hs hk
  · rw [h, M.numParse_not]
    intro v h0 h1 hv
    have := rparse_itoa k (by omega) v ⟨h0, h1⟩ s hv
    rw [this] at h; simp at h
  · rw [h, ← he, M.numParse_itoa x hx.1 hx.2]
end Go.Proofs.YtmdmpafdpgdpoaaGreatDoor.P

namespace Go.Proofs.YtmdmpafdpgdpoaaGreatDoor.P
open Go.RowKit Go.Proofs.YtmdmpafdpgdpoaaGreatDoorW.PrintWords Go.Proofs.YtmdmpafdpgdpoaaGreatDoorW.PrintLast Go.Proofs.YtmdmpafdpgdpoaaGreatDoorW.PrintMore
open M (fit I64 u64w dig itoaF)
set_option linter.unusedVariables false
set_option linter.unusedSimpArgs false
def noB : ByteArray := ⟨#[]⟩
theorem noB_list : noB.toList = [] := by rw [ByteArray.toList_eq]; rfl
def goodB (k n : Int) (s : ByteArray) : Bool := (value_Good.f k n s).getD false
theorem vgood_eq (k n : Int) (s : ByteArray) : value_Good.f k n s = some (goodB k n s) := by
  unfold goodB value_Good.f
  repeat' split
  all_goals rfl
theorem vfail_eq {n : Int} (h0 : 1 ≤ n) (h1 : n ≤ 8) : value_Fail.f n = some (4, n, noB) := by
  unfold value_Fail.f; rw [if_neg (by omega), if_neg (by omega)]; rfl
theorem vof_eq (s : ByteArray) : value_Of.f s = some (if s.size ≤ 200 then (3, 0, s) else (4, 7, noB)) := by
  unfold value_Of.f
  by_cases h : s.size ≤ 200
  · rw [if_neg (by omega), if_pos h]
  · rw [if_pos (by omega), if_neg h, vfail_eq (by omega) (by omega)]; rfl
theorem bytes_eq {s t : ByteArray} (h : s.toList = t.toList) : s = t := by
  rw [ByteArray.toList_eq, ByteArray.toList_eq] at h
  exact ByteArray.ext (Array.toList_inj.1 h)
theorem good_cases {k n : Int} {s : ByteArray} (h : goodB k n s = true) : (k = 0 ∧ n = 0 ∧ s = noB) ∨ (k = 1 ∧ (n = 0 ∨ n = 1) ∧ s = noB) ∨ (k = 2 ∧ s = noB) ∨ (k = 3 ∧ n = 0 ∧ s.size ≤ 200) ∨ (k = 4 ∧ 1 ≤ n ∧ n ≤ 8 ∧ s = noB) := by
  have hb : (s.toList == ([] : List UInt8)) = true → s = noB := fun h => bytes_eq (by rw [noB_list]; simpa using h)
  have hg := vgood_eq k n s
  rw [h] at hg
  unfold value_Good.f at hg
  split at hg
  · rename_i e; subst e
    split at hg
    · rename_i e; exact .inl ⟨rfl, e, hb (by simpa using hg)⟩
    · simp at hg
  · split at hg
    · rename_i e; subst e
      split at hg
      · rename_i e; exact .inr (.inl ⟨rfl, .inl e, hb (by simpa using hg)⟩)
      · split at hg
        · rename_i e; exact .inr (.inl ⟨rfl, .inr e, hb (by simpa using hg)⟩)
        · simp at hg
    · split at hg
      · rename_i e; exact .inr (.inr (.inl ⟨e, hb (by simpa using hg)⟩))
      · split at hg
        · rename_i e
          split at hg
          · rename_i e'; simp at hg; exact .inr (.inr (.inr (.inl ⟨e, e', by omega⟩)))
          · simp at hg
        · split at hg
          · rename_i e
            split at hg
            · split at hg
              · rename_i e1 e2; exact .inr (.inr (.inr (.inr ⟨e, e1, e2, hb (by simpa using hg)⟩)))
              · simp at hg
            · simp at hg
          · simp at hg
def faultV (k n : Int) (s : ByteArray) : Int × Int × ByteArray := if goodB k n s = true then (if k = 4 then (k, n, s) else (0, 0, noB)) else (4, 3, noB)
theorem fault_eq (k : Nat) (hk : 1 ≤ k) (t n : Int) (s : ByteArray) : value_fault.f k t n s = some (faultV t n s) := by
  obtain ⟨k, rfl⟩ : ∃ m, k = m + 1 := ⟨k - 1, by omega⟩
  unfold value_fault.f faultV
  by_cases h4 : t = 4
  · rw [if_pos h4, vgood_eq, Option.bind_some, value_fault.j0]
    by_cases hg : goodB t n s = true
    · rw [if_pos hg, if_pos hg, if_pos h4]
    · rw [if_neg hg, if_neg hg, vgood_eq, Option.bind_some, if_neg hg, vfail_eq (by omega) (by omega)]; rfl
  · rw [if_neg h4, value_fault.j0, if_neg (by simp), vgood_eq, Option.bind_some]
    by_cases hg : goodB t n s = true
    · rw [if_pos hg, if_pos hg, if_neg h4]; rfl
    · rw [if_neg hg, if_neg hg, vfail_eq (by omega) (by omega)]; rfl
end Go.Proofs.YtmdmpafdpgdpoaaGreatDoor.P

namespace Go.Proofs.YtmdmpafdpgdpoaaGreatDoor.P
open Go.RowKit Go.Proofs.YtmdmpafdpgdpoaaGreatDoorW.PrintWords Go.Proofs.YtmdmpafdpgdpoaaGreatDoorW.PrintLast Go.Proofs.YtmdmpafdpgdpoaaGreatDoorW.PrintMore
open M (fit I64 u64w dig itoaF)
set_option linter.unusedVariables false
set_option linter.unusedSimpArgs false
def showS (k n : Int) (s : ByteArray) : ByteArray := if goodB k n s = true then (if k = 2 then bs (itoaF n) else if k = 1 then (if n = 1 then ⟨#[84, 82, 85, 69]⟩ else ⟨#[70, 65, 76, 83, 69]⟩) else if k = 4 then nm n.toNat else s) else ⟨#[63]⟩
theorem show_eq (k n : Int) (s : ByteArray) (hn : I64 n) : value_Show.f k n s = some (showS k n s) := by
  unfold value_Show.f showS
  rw [vgood_eq, Option.bind_some]
  by_cases hg : goodB k n s = true
  · rw [if_pos hg, if_pos hg]
    by_cases h2 : k = 2
    · rw [if_pos h2, if_pos h2, dec_one n hn]
    · rw [if_neg h2, if_neg h2]
      by_cases h1 : k = 1
      · rw [if_pos h1, if_pos h1]; split <;> rfl
      · rw [if_neg h1, if_neg h1]
        by_cases h4 : k = 4
        · rw [if_pos h4, if_pos h4]
          have : 0 ≤ n ∧ n < 9 := by rcases good_cases hg with h | h | h | h | h <;> omega
          rw [if_pos this]
        · rw [if_neg h4, if_neg h4]
  · rw [if_neg hg, if_neg hg]
def strV (k n : Int) (s : ByteArray) : ByteArray × Int × Int × ByteArray := if goodB k n s = true ∧ k ≠ 4 then (showS k n s, 0, 0, noB) else (noB, faultV k n s)
theorem fault_none {k n : Int} {s : ByteArray} (h : goodB k n s = true) (h4 : k ≠ 4) : faultV k n s = (0, 0, noB) := by unfold faultV; rw [if_pos h, if_neg h4]
theorem fault_some {k n : Int} {s : ByteArray} (h : ¬ (goodB k n s = true ∧ k ≠ 4)) : (faultV k n s).1 = 4 := by
  unfold faultV
  by_cases hg : goodB k n s = true
  · have h4 : k = 4 := by
      by_cases h4 : k = 4
      · exact h4
      · exact absurd ⟨hg, h4⟩ h
    rw [if_pos hg, if_pos h4, h4]
  · rw [if_neg hg]
theorem str_eq (r : Nat) (hr : 1 ≤ r) (k n : Int) (s : ByteArray) (hn : I64 n) : value_Str.f r k n s = some (strV k n s) := by
  unfold value_Str.f strV
  rw [fault_eq r hr, Option.bind_some]
  by_cases h : goodB k n s = true ∧ k ≠ 4
  · rw [if_pos h, fault_none h.1 h.2, if_pos rfl, show_eq k n s hn, Option.bind_some]; rfl
  · have := fault_some h
    rw [if_neg h, if_neg (by omega)]; rfl
def numV (k n : Int) (s : ByteArray) : Int × Int × Int × ByteArray :=
  if goodB k n s = true ∧ k ≠ 4 then (if k = 3 then (if (M.numParse s.data.toList).2 = true then ((M.numParse s.data.toList).1, 0, 0, noB) else (0, 4, 3, noB)) else (n, 0, 0, noB)) else (0, faultV k n s)
theorem num_eq (r : Nat) (hr : 1 ≤ r) (k n : Int) (s : ByteArray) : value_Num.f r k n s = some (numV k n s) := by
  unfold value_Num.f numV
  rw [fault_eq r hr, Option.bind_some]
  by_cases h : goodB k n s = true ∧ k ≠ 4
  · rw [if_pos h, fault_none h.1 h.2, if_pos rfl]
    by_cases h3 : k = 3
    · have hs : s.size ≤ 200 := by rcases good_cases h.1 with h | h | h | h | h <;> omega
      have hp : num_Parse.f s = some (M.numParse s.data.toList) := by unfold num_Parse.f; rw [if_pos (by omega)]
      rw [if_pos h3, if_pos h3, hp, Option.bind_some]
      by_cases hq : (M.numParse s.data.toList).2 = true
      · rw [if_pos hq, if_pos hq]; rfl
      · rw [if_neg hq, if_neg hq, vfail_eq (by omega) (by omega)]; rfl
    · rw [if_neg h3, if_neg h3]; rfl
  · have := fault_some h
    rw [if_neg h, if_neg (by omega)]
def yesS : List UInt8 := [84, 82, 85, 69]
def noS : List UInt8 := [70, 65, 76, 83, 69]
def flagV (k n : Int) (s : ByteArray) : Bool × Int × Int × ByteArray :=
  if goodB k n s = true ∧ k ≠ 4 then (if k = 3 then (if s.toList = yesS then (true, 0, 0, noB) else if s.toList = noS then (n != 0, 0, 0, noB) else (false, 4, 3, noB)) else (n != 0, 0, 0, noB)) else (false, faultV k n s)
theorem flag_eq (r : Nat) (hr : 1 ≤ r) (k n : Int) (s : ByteArray) : value_Flag.f r k n s = some (flagV k n s) := by
  obtain ⟨r, rfl⟩ : ∃ m, r = m + 1 := ⟨r - 1, by omega⟩
  unfold value_Flag.f flagV yesS noS
  rw [fault_eq _ hr, Option.bind_some]
  by_cases h : goodB k n s = true ∧ k ≠ 4
  · rw [if_pos h, fault_none h.1 h.2, if_pos rfl]
    by_cases h3 : k = 3
    · rw [if_pos h3, if_pos h3]
      by_cases hy : s.toList = ([84, 82, 85, 69] : List UInt8)
      · rw [if_pos hy, show (s.toList == [84, 82, 85, 69]) = true by simpa using hy, value_Flag.j0, if_pos rfl]; rfl
      · rw [if_neg hy, show (s.toList == [84, 82, 85, 69]) = false by simpa using hy, value_Flag.j0, if_neg (by simp), if_pos h3]
        by_cases hz : s.toList = ([70, 65, 76, 83, 69] : List UInt8)
        · rw [if_pos hz, if_pos hz]; rfl
        · rw [if_neg hz, if_neg hz, vfail_eq (by omega) (by omega)]; rfl
    · rw [if_neg h3, if_neg h3, value_Flag.j0, if_neg (by simp), if_neg h3]; rfl
  · have := fault_some h
    rw [if_neg h, if_neg (by omega)]
end Go.Proofs.YtmdmpafdpgdpoaaGreatDoor.P

namespace Go.Proofs.YtmdmpafdpgdpoaaGreatDoor.P
open Go.RowKit Go.Proofs.YtmdmpafdpgdpoaaGreatDoorW.PrintWords Go.Proofs.YtmdmpafdpgdpoaaGreatDoorW.PrintLast Go.Proofs.YtmdmpafdpgdpoaaGreatDoorW.PrintMore
open M (fit I64 u64w)
set_option linter.unusedVariables false
set_option linter.unusedSimpArgs false
theorem add_eq (a b : Int) (ha : I64 a) (hb : I64 b) : num_Add.f a b = some (fit (a + b)) := by
  unfold num_Add.f
  have hc := M.wrap64_in (a + b)
  have h := M.and_neg _ _ (M.bits_in .xor a (wrap64 (a + b))) (M.bits_in .xor b (wrap64 (a + b)))
  rw [M.xor_neg _ _ ha hc, M.xor_neg _ _ hb hc] at h
  have hw : wrap64 (a + b) = (a + b + 9223372036854775808) % 18446744073709551616 - 9223372036854775808 := by unfold wrap64; rfl
  unfold I64 at ha hb
  by_cases h0 : a + b < -9223372036854775808 ∨ 9223372036854775807 < a + b
  · rw [if_pos]
    · rw [M.fit_out (by omega)]
    · apply of_decide_eq_true; rw [h]
      simp only [Bool.and_eq_true, bne_iff_ne, ne_eq, decide_eq_decide]
      omega
  · rw [if_neg]
    · rw [M.fit_in (by omega), M.wrap64_id (by unfold I64; omega)]
    · apply of_decide_eq_false; rw [h]
      simp only [Bool.and_eq_false_iff, bne_eq_false_iff_eq, decide_eq_decide]
      omega
theorem size_eq (a : Int) (ha : I64 a) : num_size.f a = some (a.natAbs : Int) := by
  unfold num_size.f; unfold I64 at ha
  split
  · rw [u64w, u64w]; congr 1; omega
  · rw [u64w]; congr 1; omega
theorem signed_eq (k : Nat) (u : Int) (b : Bool) (h0 : 0 ≤ u) (h1 : u < 18446744073709551616) : num_signed.f (k + 1) u b = some (fit (if b = true then -u else u)) := by
  unfold num_signed.f
  cases b
  · simp only [num_signed.j0, Bool.false_eq_true, if_false]
    by_cases h : u ≤ 9223372036854775807
    · rw [if_pos h, M.fit_in (by omega), M.wrap64_id (by unfold I64; omega)]
    · rw [if_neg h, M.fit_out (by omega)]
  · simp only [num_signed.j0, if_true, decide_eq_true_eq]
    by_cases h : u ≤ 9223372036854775808
    · rw [if_pos h, M.fit_in (by omega), u64w]
      congr 2; unfold wrap64; omega
    · rw [if_neg h, M.fit_out (by omega)]
theorem apart_eq (k : Nat) (a b : Int) : num_apart.f (k + 1) a b = some (decide (a < 0) != decide (b < 0)) := by
  unfold num_apart.f
  by_cases h0 : a < 0 <;> by_cases h1 : b < 0 <;> simp [num_apart.j0, h0, h1]
theorem mul_eq (k : Nat) (a b : Int) (ha : I64 a) (hb : I64 b) : num_Mul.f (k + 1) a b = some (fit (a * b)) := by
  unfold num_Mul.f
  have hm := M.mul_sizes a b
  have hx : a.natAbs * b.natAbs ≤ 9223372036854775808 * 9223372036854775808 := Nat.mul_le_mul (by unfold I64 at ha; omega) (by unfold I64 at hb; omega)
  rw [size_eq a ha, Option.bind_some, size_eq b hb, Option.bind_some]
  unfold bits_Mul64.f
  rw [if_pos (by unfold I64 at ha hb; omega), Option.bind_some]
  rw [show (a.natAbs : Int) * (b.natAbs : Int) = ((a.natAbs * b.natAbs : Nat) : Int) by rw [Int.natCast_mul]]
  generalize a.natAbs * b.natAbs = m at *
  rw [apart_eq, Option.bind_some, signed_eq _ _ _ (by omega) (by omega), Option.bind_some, hm]
  generalize (decide (a < 0) != decide (b < 0)) = c
  by_cases h : (m : Int) / 18446744073709551616 > 0
  · rw [if_pos h, M.fit_out (by split <;> omega)]
  · rw [if_neg h, show (m : Int) % 18446744073709551616 = m by omega]
theorem radd_eq (k : Nat) (a b : Int) (ha : I64 a) (hb : I64 b) : pannierref01_Add.f (k + 1) a b = some (fit (a + b)) := by
  unfold pannierref01_Add.f
  rw [whole_eq a ha, Option.bind_some, whole_eq b hb, Option.bind_some]
  simp only [u64w, pannierref01_Got_or.f]
  unfold I64 at ha hb
  by_cases h0 : a < 0 <;> by_cases h1 : b < 0
  · rw [if_pos (by simp [h0, h1]), if_pos h0, rsigned_eq _ _ _ (by omega) (by omega)]
    simp only [Option.bind_some]
    by_cases h2 : ((a.natAbs : Int) + b.natAbs) % 18446744073709551616 < a.natAbs
    · rw [if_pos (decide_eq_true h2), Option.bind_some, M.fit_out (by omega)]
    · rw [if_neg (by simpa using h2), Option.bind_some, fit_pair]
      rw [decide_eq_true (by omega), if_pos rfl]; congr 2; omega
  · rw [if_neg (by simp [h0, h1])]
    by_cases h2 : (a.natAbs : Int) ≥ b.natAbs
    · rw [if_pos h2, if_pos h0, rsigned_eq _ _ _ (by omega) (by omega), Option.bind_some, fit_pair]
      congr 2
      by_cases h3 : (a.natAbs : Int) > b.natAbs
      · rw [decide_eq_true h3, if_pos rfl]; omega
      · rw [decide_eq_false h3, if_neg (by simp)]; omega
    · rw [if_neg h2, rsigned_eq _ _ _ (by omega) (by omega), Option.bind_some, fit_pair, decide_eq_false h1, if_neg (by simp)]; congr 2; omega
  · rw [if_neg (by simp [h0, h1])]
    by_cases h2 : (a.natAbs : Int) ≥ b.natAbs
    · rw [if_pos h2, if_neg h0, rsigned_eq _ _ _ (by omega) (by omega), Option.bind_some, fit_pair, if_neg (by simp)]
      congr 2; omega
    · rw [if_neg h2, rsigned_eq _ _ _ (by omega) (by omega), Option.bind_some, fit_pair, decide_eq_true h1, if_pos rfl]; congr 2; omega
  · rw [if_pos (by simp [h0, h1]), if_neg h0, rsigned_eq _ _ _ (by omega) (by omega)]
    simp only [Option.bind_some]
    by_cases h2 : ((a.natAbs : Int) + b.natAbs) % 18446744073709551616 < a.natAbs
    · omega
    · rw [if_neg (by simpa using h2), Option.bind_some, fit_pair, if_neg (by simp)]
      congr 2; omega
end Go.Proofs.YtmdmpafdpgdpoaaGreatDoor.P

namespace Go.Proofs.YtmdmpafdpgdpoaaGreatDoor.P
open Go.RowKit Go.Proofs.YtmdmpafdpgdpoaaGreatDoorW.PrintWords Go.Proofs.YtmdmpafdpgdpoaaGreatDoorW.PrintLast Go.Proofs.YtmdmpafdpgdpoaaGreatDoorW.PrintMore
open M (fit I64 u64w)
set_option linter.unusedVariables false
set_option linter.unusedSimpArgs false
theorem low_bit (y d : Nat) (hd : d < 64) (hy : y < 18446744073709551616) : Go.bits .and .u64 (shr .u64 (y : Int) (IntKind.u64.wrap (d : Int))) 1 = ((y / 2 ^ d % 2 : Nat) : Int) := by
  have h1 : shr .u64 (y : Int) (IntKind.u64.wrap (d : Int)) = ((y / 2 ^ d : Nat) : Int) := by
    unfold shr
    rw [u64w, show ((d : Int) % 18446744073709551616).toNat = d by omega, show min d IntKind.u64.bits = d by simp [IntKind.bits]; omega]
    rw [Int.natCast_ediv]; simp
  have hlt : y / 2 ^ d < 18446744073709551616 := Nat.lt_of_le_of_lt (Nat.div_le_self _ _) hy
  rw [h1]
  have h2 := bits_and_u64_nat (y / 2 ^ d) 1 hlt (by omega)
  rw [Nat.and_one_is_mod] at h2
  exact h2
theorem rmul_loop (a b : Int) (ha : I64 a) (hb : I64 b) : ∀ (d : Nat) (n : Nat) (k : Nat), d ≤ 64 → n = a.natAbs * (b.natAbs / 2 ^ d) → n < 18446744073709551616 → d + 1 < k →
    pannierref01_Mul.l0 k a b a.natAbs b.natAbs n ((d : Int) - 1) = some (fit (a * b)) := by
  have hx : a.natAbs ≤ 9223372036854775808 := by unfold I64 at ha; omega
  have hy : b.natAbs < 18446744073709551616 := by unfold I64 at hb; omega
  have hm := M.mul_sizes a b
  have far : ∀ m : Nat, m ≤ a.natAbs * b.natAbs → 18446744073709551616 ≤ m → fit (a * b) = (0, false) := by
    intro m h1 h2
    apply M.fit_out
    rw [hm]
    generalize a.natAbs * b.natAbs = z at *
    split <;> omega
  intro d
  induction d with
  | zero =>
    intro n k _ hn hlt hk
    obtain ⟨k, rfl⟩ : ∃ m, k = m + 2 := ⟨k - 2, by omega⟩
    simp only [pannierref01_Mul.l0]
    rw [if_neg (by omega)]
    simp only [Nat.pow_zero, Nat.div_one] at hn
    rw [← hn] at hm
    rw [hm]
    by_cases hs : ((decide (a < 0)) != (decide (b < 0))) = true
    · rw [if_pos hs, if_pos hs, rsigned_eq _ _ _ (by omega) (by omega), Option.bind_some, fit_pair]
      by_cases h0 : (n : Int) > 0
      · rw [decide_eq_true h0, if_pos rfl]
      · rw [decide_eq_false h0, if_neg (by simp)]; congr 2; omega
    · rw [if_neg hs, if_neg hs, rsigned_eq _ _ _ (by omega) (by omega), Option.bind_some, fit_pair, if_neg (by simp)]
  | succ d ih =>
    intro n k hd hn hlt hk
    obtain ⟨k, rfl⟩ : ∃ m, k = m + 1 := ⟨k - 1, by omega⟩
    have hq : b.natAbs / 2 ^ d = 2 * (b.natAbs / 2 ^ (d + 1)) + b.natAbs / 2 ^ d % 2 := by
      rw [Nat.pow_succ, ← Nat.div_div_eq_div_mul]; omega
    have hle : a.natAbs * (b.natAbs / 2 ^ d) ≤ a.natAbs * b.natAbs := Nat.mul_le_mul_left _ (Nat.div_le_self _ _)
    have hn2 : a.natAbs * (b.natAbs / 2 ^ d) = 2 * n + a.natAbs * (b.natAbs / 2 ^ d % 2) := by
      rw [hn]; conv => lhs; rw [hq]
      rw [Nat.mul_add, Nat.mul_left_comm]
    have hbit := low_bit b.natAbs d (by omega) hy
    have e1 : ((d + 1 : Nat) : Int) - 1 = (d : Int) := by omega
    rw [e1]
    simp only [pannierref01_Mul.l0]
    rw [if_pos (by omega)]
    have hw : wrap64 ((d : Int) - 1) = (d : Int) - 1 := M.wrap64_id (by unfold I64; omega)
    by_cases h1 : (n : Int) ≥ 9223372036854775808
    · rw [if_pos h1, far (a.natAbs * (b.natAbs / 2 ^ d)) hle (by omega)]
    · rw [if_neg h1, if_pos (by rw [u64w]; omega), hbit, hw]
      have hb2 : b.natAbs / 2 ^ d % 2 = 0 ∨ b.natAbs / 2 ^ d % 2 = 1 := by omega
      rcases hb2 with hb2 | hb2
      · rw [hb2, if_neg (by decide), u64w, show (n : Int) * 2 % 18446744073709551616 = ((2 * n : Nat) : Int) by omega]
        rw [hb2, Nat.mul_zero, Nat.add_zero] at hn2
        exact ih _ k (by omega) hn2.symm (by omega) (by omega)
      · rw [hb2, if_pos (by decide), u64w, u64w]
        rw [hb2, Nat.mul_one] at hn2
        by_cases h2 : ((n : Int) * 2 % 18446744073709551616 + (a.natAbs : Int)) % 18446744073709551616 < (n : Int) * 2 % 18446744073709551616
        · rw [if_pos h2, far (a.natAbs * (b.natAbs / 2 ^ d)) hle (by omega)]
        · rw [if_neg h2, show ((n : Int) * 2 % 18446744073709551616 + (a.natAbs : Int)) % 18446744073709551616 = ((2 * n + a.natAbs : Nat) : Int) by omega]
          exact ih _ k (by omega) hn2.symm (by omega) (by omega)
theorem rmul_eq (k : Nat) (hk : 66 ≤ k) (a b : Int) (ha : I64 a) (hb : I64 b) : pannierref01_Mul.f k a b = some (fit (a * b)) := by
  unfold pannierref01_Mul.f
  rw [whole_eq a ha, Option.bind_some, whole_eq b hb, Option.bind_some]
  have h := rmul_loop a b ha hb 64 0 k (by omega) (by rw [Nat.div_eq_of_lt (by unfold I64 at hb; omega)]; omega) (by omega) (by omega)
  exact h
theorem tdiv_sizes (a b : Int) : a.tdiv b = if (decide (a < 0) != decide (b < 0)) = true then -((a.natAbs / b.natAbs : Nat) : Int) else ((a.natAbs / b.natAbs : Nat) : Int) := by
  by_cases h0 : a < 0 <;> by_cases h1 : b < 0
  · rw [if_neg (by simp [h0, h1])]
    obtain ⟨x, rfl⟩ : ∃ x : Nat, a = -(x : Int) := ⟨a.natAbs, by omega⟩
    obtain ⟨y, rfl⟩ : ∃ y : Nat, b = -(y : Int) := ⟨b.natAbs, by omega⟩
    rw [Int.neg_tdiv, Int.tdiv_neg, Int.neg_neg, ← Int.ofNat_tdiv]; simp
  · rw [if_pos (by simp [h0, h1])]
    obtain ⟨x, rfl⟩ : ∃ x : Nat, a = -(x : Int) := ⟨a.natAbs, by omega⟩
    obtain ⟨y, rfl⟩ : ∃ y : Nat, b = (y : Int) := ⟨b.natAbs, by omega⟩
    rw [Int.neg_tdiv, ← Int.ofNat_tdiv]; simp
  · rw [if_pos (by simp [h0, h1])]
    obtain ⟨x, rfl⟩ : ∃ x : Nat, a = (x : Int) := ⟨a.natAbs, by omega⟩
    obtain ⟨y, rfl⟩ : ∃ y : Nat, b = -(y : Int) := ⟨b.natAbs, by omega⟩
    rw [Int.tdiv_neg, ← Int.ofNat_tdiv]; simp
  · rw [if_neg (by simp [h0, h1])]
    obtain ⟨x, rfl⟩ : ∃ x : Nat, a = (x : Int) := ⟨a.natAbs, by omega⟩
    obtain ⟨y, rfl⟩ : ∃ y : Nat, b = (y : Int) := ⟨b.natAbs, by omega⟩
    rw [← Int.ofNat_tdiv]; simp
def divS (a b : Int) : Int × Bool := if b = 0 then (0, false) else fit (a.tdiv b)
theorem div_le2 (x y : Nat) (h : 2 ≤ y) : x / y ≤ x / 2 := Nat.div_le_div_left h (by omega)
theorem tdiv_in (a b : Int) (ha : I64 a) (h0 : b ≠ 0) (h : ¬ (a = -9223372036854775808 ∧ b = -1)) : I64 (a.tdiv b) := by
  rw [tdiv_sizes]
  unfold I64 at *
  have hle := Nat.div_le_self a.natAbs b.natAbs
  by_cases h1 : 2 ≤ b.natAbs
  · have h2 := div_le2 a.natAbs b.natAbs h1
    generalize a.natAbs / b.natAbs = q at *
    split <;> omega
  · have hb : b.natAbs = 1 := by omega
    rw [hb, Nat.div_one]
    rcases (by omega : b = 1 ∨ b = -1) with rfl | rfl <;> by_cases h3 : a < 0 <;> simp [h3] <;> omega
theorem div_eq (a b : Int) (ha : I64 a) : num_Div.f a b = some (divS a b) := by
  unfold num_Div.f divS
  by_cases h0 : b = 0
  · rw [if_pos h0, if_pos h0]
  · rw [if_neg h0, if_neg h0]
    by_cases h1 : a = -9223372036854775808
    · rw [if_pos h1]
      by_cases h2 : b = -1
      · subst h1; subst h2; rfl
      · rw [if_neg h2, M.fit_in (tdiv_in a b ha h0 (by omega)), M.wrap64_id (tdiv_in a b ha h0 (by omega))]
    · rw [if_neg h1, M.fit_in (tdiv_in a b ha h0 (by omega)), M.wrap64_id (tdiv_in a b ha h0 (by omega))]
theorem rdiv_eq (k : Nat) (a b : Int) (ha : I64 a) (hb : I64 b) : pannierref01_Div.f (k + 1) a b = some (divS a b) := by
  unfold pannierref01_Div.f divS
  by_cases h0 : b = 0
  · rw [if_pos h0, if_pos h0]
  · have hle := Nat.div_le_self a.natAbs b.natAbs
    unfold I64 at ha hb
    rw [if_neg h0, if_neg h0, whole_eq a ha, Option.bind_some, whole_eq b hb, Option.bind_some, if_neg (by omega), ← Int.ofNat_tdiv, u64w, tdiv_sizes]
    generalize a.natAbs / b.natAbs = q at *
    rw [show (q : Int) % 18446744073709551616 = q by omega]
    by_cases hs : ((decide (a < 0)) != (decide (b < 0))) = true
    · rw [if_pos hs, if_pos hs, rsigned_eq _ _ _ (by omega) (by omega), Option.bind_some, fit_pair]
      by_cases h0 : (q : Int) > 0
      · rw [decide_eq_true h0, if_pos rfl]
      · rw [decide_eq_false h0, if_neg (by simp)]; congr 2; omega
    · rw [if_neg hs, if_neg hs, rsigned_eq _ _ _ (by omega) (by omega), Option.bind_some, fit_pair, if_neg (by simp)]
end Go.Proofs.YtmdmpafdpgdpoaaGreatDoor.P

namespace Go.Proofs.YtmdmpafdpgdpoaaGreatDoor.P
open Go.RowKit Go.Proofs.YtmdmpafdpgdpoaaGreatDoorW.PrintWords Go.Proofs.YtmdmpafdpgdpoaaGreatDoorW.PrintLast Go.Proofs.YtmdmpafdpgdpoaaGreatDoorW.PrintMore
open M (fit I64)
set_option linter.unusedVariables false
set_option linter.unusedSimpArgs false
def nV (x : S26) : Int × Int × Int × ByteArray := numV x.f0 x.f1 x.f2
def fV (x : S26) : Bool × Int × Int × ByteArray := flagV x.f0 x.f1 x.f2
def sV (x : S26) : ByteArray × Int × Int × ByteArray := strV x.f0 x.f1 x.f2
theorem fit_in1 (n : Int) : I64 (fit n).1 := by
  unfold M.fit; split
  · rename_i h; exact h
  · show I64 0; unfold I64; omega
theorem numV_in {k n : Int} {s : ByteArray} (hn : I64 n) : I64 (numV k n s).1 := by
  unfold numV
  have h0 : I64 0 := by unfold I64; omega
  split
  · split
    · split
      · rename_i h
        have := M.numParse_ok (l := s.data.toList) (v := (M.numParse s.data.toList).1) (by rw [← h])
        exact ⟨this.2.1, this.2.2⟩
      · exact h0
    · exact hn
  · exact h0
def numsV (st : Int → Int → Int → Int × Bool) : List S26 → Int → Int → Int × Int × Int × ByteArray
  | [], n, _ => (n, 0, 0, noB)
  | v :: r, n, i => if (nV v).2.1 = 0 then (if (st n (nV v).1 i).2 = true then numsV st r (st n (nV v).1 i).1 (i + 1) else (0, 4, 2, noB)) else (0, (nV v).2)
theorem numbers_eq {sto : Int → Int → Int → Option (Int × Bool)} {st : Int → Int → Int → Int × Bool} (hst : ∀ n b i, I64 n → I64 b → sto n b i = some (st n b i) ∧ I64 (st n b i).1) :
    ∀ (l : List S26) (n i : Int), (∀ x ∈ l, I64 x.f1) → I64 n → numbersF sto l n i = some (numsV st l n i) ∧ I64 (numsV st l n i).1
  | [], n, i, _, hn => ⟨rfl, hn⟩
  | v :: r, n, i, hl, hn => by
    have h0 : I64 0 := by unfold I64; omega
    have hv : I64 (nV v).1 := numV_in (hl v (by simp))
    obtain ⟨e1, e2⟩ := hst n (nV v).1 i hn hv
    unfold numbersF numsV
    rw [num_eq 1 (by omega)]
    simp only [Option.bind_some]
    by_cases hk : (nV v).2.1 = 0
    · rw [if_pos hk]
      have hk' : (numV v.f0 v.f1 v.f2).2.1 = 0 := hk
      rw [if_pos hk']
      have e1' : sto n (numV v.f0 v.f1 v.f2).1 i = some (st n (nV v).1 i) := e1
      rw [e1', Option.bind_some]
      by_cases hb : (st n (nV v).1 i).2 = true
      · rw [if_pos hb, if_pos hb]
        exact numbers_eq hst r _ _ (fun x hx => hl x (by simp [hx])) e2
      · rw [if_neg hb, if_neg hb, vfail_eq (by omega) (by omega)]
        exact ⟨rfl, h0⟩
    · rw [if_neg hk]
      have hk' : ¬ (numV v.f0 v.f1 v.f2).2.1 = 0 := hk
      rw [if_neg hk']
      exact ⟨rfl, h0⟩
def addSt : Int → Int → Int → Int × Bool := fun a b _ => fit (a + b)
def mulSt : Int → Int → Int → Int × Bool := fun a b _ => fit (a * b)
def bestS (bt : Int → Int → Bool) : Int → Int → Int → Int × Bool := fun a b i => if i = 0 then (b, true) else if bt b a = true then (b, true) else (a, true)
theorem add_st (n b i : Int) (hn : I64 n) (hb : I64 b) : (fun a b (_ : Int) => num_Add.f a b) n b i = some (addSt n b i) ∧ I64 (addSt n b i).1 := ⟨add_eq n b hn hb, fit_in1 _⟩
theorem mul_st (n b i : Int) (hn : I64 n) (hb : I64 b) : (fun a b (_ : Int) => num_Mul.f 100 a b) n b i = some (mulSt n b i) ∧ I64 (mulSt n b i).1 := ⟨mul_eq 99 n b hn hb, fit_in1 _⟩
theorem best_st (bt : Int → Int → Bool) (n b i : Int) (hn : I64 n) (hb : I64 b) : bestSt bt n b i = some (bestS bt n b i) ∧ I64 (bestS bt n b i).1 := by
  unfold bestSt bestS
  split
  · exact ⟨rfl, hb⟩
  · split
    · exact ⟨rfl, hb⟩
    · exact ⟨rfl, hn⟩
def toldV (t : Int × Int × Int × ByteArray) : Int × Int × ByteArray := if t.2.1 = 0 then (2, t.1, noB) else t.2
theorem told_eq (t : Int × Int × Int × ByteArray) : fold_told.f t.1 t.2.1 t.2.2.1 t.2.2.2 = some (toldV t) := by
  unfold fold_told.f toldV
  split
  · rfl
  · rfl
def meanV (m : List S26) : Int × Int × ByteArray :=
  if (numsV addSt m 0 0).2.1 = 0 then (if m.length = 0 then (4, 1, noB) else (2, (divS (numsV addSt m 0 0).1 (m.length : Int)).1, noB)) else (numsV addSt m 0 0).2
theorem mean_eq (m : List S26) (hm : ∀ x ∈ m, I64 x.f1) : fold_mean.f m = some (meanV m) := by
  obtain ⟨h1, h2⟩ := numbers_eq add_st m 0 0 hm (by unfold I64; omega)
  have h1' : fold_sum.f m = some (numsV addSt m 0 0) := h1
  unfold fold_mean.f meanV
  rw [h1', Option.bind_some]
  split
  · by_cases h0 : m.length = 0
    · rw [if_pos (by omega), if_pos h0, vfail_eq (by omega) (by omega)]; rfl
    · rw [if_neg (by omega), if_neg h0, div_eq _ _ h2]; rfl
  · rfl
def flagsV (all : Bool) : List S26 → Bool → Int × Int × ByteArray
  | [], is => if is = true then (1, 1, noB) else (1, 0, noB)
  | v :: r, is => if (fV v).2.1 = 0 then flagsV all r (if all = true then is && (fV v).1 else is || (fV v).1) else (fV v).2
theorem flags_loop (all : Bool) (l : List S26) (hl : l.length ≤ 4398046511104) : ∀ (d i k : Nat) (is : Bool), i + d = l.length → d + 1 < k → fold_flags.l0 k all is l (l.length : Int) (i : Int) = some (flagsV all (l.drop i) is) := by
  intro d
  induction d with
  | zero =>
    intro i k is hi hk
    obtain ⟨k, rfl⟩ : ∃ m, k = m + 1 := ⟨k - 1, by omega⟩
    rw [fold_flags.l0, if_neg (by omega), List.drop_of_length_le (by omega)]
    unfold fold_truth.f flagsV
    cases is <;> rfl
  | succ d ih =>
    intro i k is hi hk
    obtain ⟨k, rfl⟩ : ∃ m, k = m + 1 := ⟨k - 1, by omega⟩
    have hlt : i < l.length := by omega
    have hd : l.drop i = l[i] :: l.drop (i + 1) := List.drop_eq_getElem_cons hlt
    rw [fold_flags.l0, if_pos (by omega), if_pos (by omega), if_pos (by omega), rdV hlt, wrap_next hlt (by omega), hd, flag_eq k (by omega), Option.bind_some]
    unfold flagsV
    by_cases hk2 : (fV l[i]).2.1 = 0
    · have hk' : (flagV l[i].f0 l[i].f1 l[i].f2).2.1 = 0 := hk2
      rw [if_pos hk', if_pos hk2]
      have hn := fun is => ih (i + 1) k is (by omega) (by omega)
      cases all <;> cases is <;> simp only [Bool.false_eq_true, if_false, if_true, Bool.true_and, Bool.false_and, Bool.true_or, Bool.false_or] <;> exact hn _
    · have hk' : ¬ (flagV l[i].f0 l[i].f1 l[i].f2).2.1 = 0 := hk2
      rw [if_neg hk', if_neg hk2]; rfl
theorem flags_eq (all : Bool) (l : List S26) (hl : l.length ≤ 4398046511104) (k : Nat) (hk : l.length + 1 < k) : fold_flags.f k l all = some (flagsV all l all) := by
  have := flags_loop all l hl l.length 0 k all (by omega) hk
  exact this
def joinS (a b : ByteArray) : Int × Int × ByteArray := if a.size ≤ 200 ∧ b.size ≤ 200 ∧ a.size + b.size ≤ 200 then (3, 0, a ++ b) else (4, 7, noB)
theorem long_eq (k : Nat) (hk : 4 ≤ k) (a b : ByteArray) : text_long.f k [a, b] = some (decide (a.size > 200) || decide (b.size > 200)) := by
  obtain ⟨k, rfl⟩ : ∃ m, k = m + 3 := ⟨k - 3, by omega⟩
  have w1 : wrap64 ((0 : Int) + 1) = 1 := by unfold wrap64; decide
  have w2 : wrap64 ((1 : Int) + 1) = 2 := by unfold wrap64; decide
  unfold text_long.f
  have r0 : rdOf ByteArray.empty [a, b] 0 = a := rfl
  have r1 : rdOf ByteArray.empty [a, b] 1 = b := rfl
  have hlen : (([a, b] : List ByteArray).length : Int) = 2 := rfl
  rw [hlen]
  simp only [text_long.l0, hlen]
  rw [if_pos (by omega), if_pos (by omega), if_pos (by omega), r0, w1]
  by_cases ha : a.size > 200
  · rw [if_pos (by omega), decide_eq_true ha, Bool.true_or]
  · rw [if_neg (by omega), if_pos (by omega), if_pos (by omega), if_pos (by omega), r1, w2]
    by_cases hb : b.size > 200
    · rw [if_pos (by omega), decide_eq_true hb, Bool.or_true]
    · rw [if_neg (by omega), if_neg (by omega), decide_eq_false ha, decide_eq_false hb]; rfl
theorem join_eq (k : Nat) (hk : 4 ≤ k) (a b : ByteArray) : text_Join.f k a b = some (joinS a b) := by
  unfold text_Join.f joinS
  rw [long_eq k hk, Option.bind_some]
  by_cases ha : a.size > 200
  · rw [if_pos (by rw [decide_eq_true ha]; rfl), vfail_eq (by omega) (by omega), if_neg (by omega)]; rfl
  · by_cases hb : b.size > 200
    · rw [if_pos (by rw [decide_eq_true hb, Bool.or_true]), vfail_eq (by omega) (by omega), if_neg (by omega)]; rfl
    · rw [if_neg (by rw [decide_eq_false ha, decide_eq_false hb]; decide), if_pos (by omega), vof_eq, Option.bind_some, ByteArray.size_append]
      by_cases hs : a.size + b.size ≤ 200
      · rw [if_pos hs, if_pos ⟨by omega, by omega, hs⟩]
      · rw [if_neg hs, if_neg (fun h => hs h.2.2)]
def joinedV : List S26 → Int × Int × ByteArray → Int × Int × ByteArray
  | [], st => st
  | v :: r, st => if (sV v).2.1 = 0 then (if (joinS st.2.2 (sV v).1).1 = 4 then joinS st.2.2 (sV v).1 else joinedV r (joinS st.2.2 (sV v).1)) else (sV v).2
theorem joined_loop (l : List S26) (hl : l.length ≤ 4398046511104) (hw : ∀ x ∈ l, I64 x.f1) : ∀ (d i k : Nat) (a b : Int) (s : ByteArray), i + d = l.length → d + 4 < k → fold_joined.l0 k l (l.length : Int) (i : Int) a b s = some (joinedV (l.drop i) (a, b, s)) := by
  intro d
  induction d with
  | zero =>
    intro i k a b s hi hk
    obtain ⟨k, rfl⟩ : ∃ m, k = m + 1 := ⟨k - 1, by omega⟩
    rw [fold_joined.l0, if_neg (by omega), List.drop_of_length_le (by omega)]; rfl
  | succ d ih =>
    intro i k a b s hi hk
    obtain ⟨k, rfl⟩ : ∃ m, k = m + 1 := ⟨k - 1, by omega⟩
    have hlt : i < l.length := by omega
    have hd : l.drop i = l[i] :: l.drop (i + 1) := List.drop_eq_getElem_cons hlt
    rw [fold_joined.l0, if_pos (by omega), if_pos (by omega), if_pos (by omega), rdV hlt, wrap_next hlt (by omega), hd, str_eq k (by omega) _ _ _ (hw _ (List.getElem_mem hlt)), Option.bind_some]
    unfold joinedV
    by_cases hk2 : (sV l[i]).2.1 = 0
    · have hk' : (strV l[i].f0 l[i].f1 l[i].f2).2.1 = 0 := hk2
      rw [if_pos hk', if_pos hk2, join_eq k (by omega), Option.bind_some]
      have hj : joinS s (strV l[i].f0 l[i].f1 l[i].f2).1 = joinS s (sV l[i]).1 := rfl
      rw [hj]
      by_cases h4 : (joinS s (sV l[i]).1).1 = 4
      · rw [if_pos h4, if_pos h4]
      · rw [if_neg h4, if_neg h4]
        exact ih (i + 1) k _ _ _ (by omega) (by omega)
    · have hk' : ¬ (strV l[i].f0 l[i].f1 l[i].f2).2.1 = 0 := hk2
      rw [if_neg hk', if_neg hk2]; rfl
theorem joined_eq (l : List S26) (hl : l.length ≤ 4398046511104) (hw : ∀ x ∈ l, I64 x.f1) (k : Nat) (hk : l.length + 4 < k) : fold_joined.f k l = some (joinedV l (3, 0, noB)) := by
  have := joined_loop l hl hw l.length 0 k 3 0 noB (by omega) hk
  unfold fold_joined.f
  rw [vof_eq, Option.bind_some, if_pos (by decide)]
  exact this
def bestV (bt : Int → Int → Bool) (m : List S26) : Int × Int × ByteArray := if m.length = 0 then (4, 8, noB) else toldV (numsV (bestS bt) m 0 0)
theorem best_eq (bt : Int → Int → Bool) (m : List S26) (hm : ∀ x ∈ m, I64 x.f1) : bestF bt m = some (bestV bt m) := by
  obtain ⟨h1, h2⟩ := numbers_eq (best_st bt) m 0 0 hm (by unfold I64; omega)
  unfold bestF bestV
  split
  · exact vfail_eq (by omega) (by omega)
  · rw [h1, Option.bind_some, told_eq]
def lessB : Int → Int → Bool := fun a b => decide (a < b)
def moreB : Int → Int → Bool := fun a b => decide (b < a)
def withT (r : Int × Int × ByteArray) : Int × Int × ByteArray × Bool := (r.1, r.2.1, r.2.2, true)
def ofV (name : List UInt8) (m : List S26) : Int × Int × ByteArray × Bool :=
  if name = [83, 85, 77] then withT (toldV (numsV addSt m 0 0)) else
  if name = [80, 82, 79, 68, 85, 67, 84] then withT (toldV (numsV mulSt m 1 0)) else
  if name = [77, 73, 78] then withT (bestV lessB m) else
  if name = [77, 65, 88] then withT (bestV moreB m) else
  if name = [65, 86, 71] then withT (meanV m) else
  if name = [65, 78, 68] then withT (flagsV true m true) else
  if name = [79, 82] then withT (flagsV false m false) else
  if name = [74, 79, 73, 78] then withT (joinedV m (3, 0, noB)) else
  if name = [67, 79, 85, 78, 84] then (2, ((intsV m).length : Int), noB, true) else
  if name = [67, 79, 85, 78, 84, 65] then (2, (m.length : Int), noB, true) else
  (0, 0, noB, false)
theorem ite_some {α : Type} {c : Prop} [Decidable c] {x y : Option α} {a b : α} (h1 : x = some a) (h2 : y = some b) : (if c then x else y) = some (if c then a else b) := by
  split
  · exact h1
  · exact h2
theorem ofF_eq (name : List UInt8) (m : List S26) (hl : m.length ≤ 4398046511104) (hm : ∀ x ∈ m, I64 x.f1) : ofF name m = some (ofV name m) := by
  obtain ⟨a1, a2⟩ := numbers_eq add_st m 0 0 hm (by unfold I64; omega)
  obtain ⟨m1, m2⟩ := numbers_eq mul_st m 1 0 hm (by unfold I64; omega)
  have a1' : fold_sum.f m = some (numsV addSt m 0 0) := a1
  unfold ofF ofV
  rw [a1', Option.bind_some, told_eq, m1, Option.bind_some, told_eq, show bestF (fun a b => decide (a < b)) m = some (bestV lessB m) from best_eq lessB m hm, show bestF (fun a b => decide (b < a)) m = some (bestV moreB m) from best_eq moreB m hm, mean_eq m hm, flags_eq true m hl _ (by omega), flags_eq false m hl _ (by omega), joined_eq m hl hm _ (by omega)]
  exact ite_some rfl (ite_some rfl (ite_some rfl (ite_some rfl (ite_some rfl (ite_some rfl (ite_some rfl (ite_some rfl (ite_some rfl (ite_some rfl rfl)))))))))
theorem full_all {l : List S26} {Q : S26 → Prop} (h : ∀ x ∈ l, Q x) : ∀ x ∈ fullV l, Q x := fun x hx => h x (List.mem_filter.1 hx).1
theorem of_eq (a0 : ByteArray) (l : List S26) (hl : l.length < 4398046511104) (hw : ∀ x ∈ l, I64 x.f1) : fold_Of.f a0 l = some (ofV a0.toList (fullV l)) := by
  unfold fold_Of.f
  rw [if_pos hl]
  exact ofF_eq _ _ (by have := full_le l; omega) (full_all hw)
end Go.Proofs.YtmdmpafdpgdpoaaGreatDoor.P

namespace Go.Proofs.YtmdmpafdpgdpoaaGreatDoor.P
open Go.RowKit Go.Proofs.YtmdmpafdpgdpoaaGreatDoorW.PrintWords Go.Proofs.YtmdmpafdpgdpoaaGreatDoorW.PrintLast Go.Proofs.YtmdmpafdpgdpoaaGreatDoorW.PrintMore
open M (fit I64 itoaF)
set_option linter.unusedVariables false
set_option linter.unusedSimpArgs false
theorem rgood10 (k n : Int) (s : ByteArray) : pannierref03_Good.f k n s = some (goodB k n s) := vgood_eq k n s
theorem rfail10 {n : Int} (h0 : 1 ≤ n) (h1 : n ≤ 8) : pannierref03_Fail.f n = some (4, n, noB) := by
  unfold pannierref03_Fail.f; rw [if_neg (by omega), if_neg (by omega)]; rfl
theorem rfault10 {n : Int} (h0 : 1 ≤ n) (h1 : n ≤ 8) : pannierref10_fail.f n = some (4, n, noB, true) := by
  unfold pannierref10_fail.f; rw [rfail10 h0 h1]; rfl
theorem rnum10 (r : Nat) (hr : 2100 ≤ r) (k n : Int) (s : ByteArray) : pannierref03_Num.f r k n s = some ((numV k n s).1, false, noB, (numV k n s).2) := by
  unfold pannierref03_Num.f numV faultV
  rw [rgood10, Option.bind_some]
  by_cases hg : goodB k n s = true
  · by_cases h4 : k = 4
    · simp only [if_pos hg, if_pos h4, if_neg (show ¬ (goodB k n s = true ∧ k ≠ 4) from fun h => h.2 h4)]; rfl
    · have hx : goodB k n s = true ∧ k ≠ 4 := ⟨hg, h4⟩
      simp only [if_pos hg, if_neg h4, if_pos hx]
      by_cases h3 : k = 3
      · have hs : s.size ≤ 200 := by rcases good_cases hg with h | h | h | h | h <;> omega
        simp only [if_pos h3]
        rw [rparse_eq r s (by omega) hr, Option.bind_some]
        by_cases hq : (M.numParse s.data.toList).2 = true
        · simp only [if_pos hq]; rfl
        · simp only [if_neg hq]; rw [rfail10 (by omega) (by omega)]; rfl
      · simp only [if_neg h3]; rfl
  · simp only [if_neg hg, if_neg (show ¬ (goodB k n s = true ∧ k ≠ 4) from fun h => hg h.1)]; rw [rfail10 (by omega) (by omega)]; rfl
theorem rflag10 (k n : Int) (s : ByteArray) : pannierref03_Flag.f k n s = some (0, (flagV k n s).1, noB, (flagV k n s).2) := by
  unfold pannierref03_Flag.f flagV faultV yesS noS
  rw [rgood10, Option.bind_some]
  by_cases hg : goodB k n s = true
  · by_cases h4 : k = 4
    · simp only [if_pos hg, if_pos h4, if_neg (show ¬ (goodB k n s = true ∧ k ≠ 4) from fun h => h.2 h4)]; rfl
    · have hx : goodB k n s = true ∧ k ≠ 4 := ⟨hg, h4⟩
      simp only [if_pos hg, if_neg h4, if_pos hx]
      by_cases h3 : k = 3
      · have hn : n = 0 := by rcases good_cases hg with h | h | h | h | h <;> omega
        simp only [if_pos h3]
        by_cases hy : s.toList = ([84, 82, 85, 69] : List UInt8)
        · simp only [if_pos hy]; rw [show (s.toList == ([84, 82, 85, 69] : List UInt8)) = true by simpa using hy]; rfl
        · simp only [if_neg hy]
          by_cases hz : s.toList = ([70, 65, 76, 83, 69] : List UInt8)
          · simp only [if_pos hz]; rw [show (s.toList == ([84, 82, 85, 69] : List UInt8)) = false by simpa using hy, hn]; rfl
          · simp only [if_neg hz]; rw [rfail10 (by omega) (by omega)]; rfl
      · simp only [if_neg h3]; rfl
  · simp only [if_neg hg, if_neg (show ¬ (goodB k n s = true ∧ k ≠ 4) from fun h => hg h.1)]; rw [rfail10 (by omega) (by omega)]; rfl
theorem rshow10 (r : Nat) (hr : 21 ≤ r) (k n : Int) (s : ByteArray) (hn : I64 n) (hg : goodB k n s = true) (h4 : k ≠ 4) : pannierref03_Show.f r k n s = some (showS k n s) := by
  unfold pannierref03_Show.f showS
  rw [rgood10, Option.bind_some]
  simp only [if_pos hg, if_neg h4]
  by_cases h1 : k = 1
  · simp only [if_pos h1, if_neg (show ¬ k = 2 by omega)]; split <;> rfl
  · simp only [if_neg h1]
    by_cases h2 : k = 2
    · simp only [if_pos h2]; rw [rdec_eq r hr n hn]; rfl
    · simp only [if_neg h2]
      by_cases h3 : k = 3
      · simp only [if_pos h3]
      · have hs : s = noB := by rcases good_cases hg with h | h | h | h | h <;> first | omega | exact h.2.2
        simp only [if_neg h3]; rw [hs]; rfl
theorem rstr10 (r : Nat) (hr : 21 ≤ r) (k n : Int) (s : ByteArray) (hn : I64 n) : pannierref03_Str.f r k n s = some (0, false, (strV k n s).1, (strV k n s).2) := by
  unfold pannierref03_Str.f strV faultV
  rw [rgood10, Option.bind_some]
  by_cases hg : goodB k n s = true
  · by_cases h4 : k = 4
    · simp only [if_pos hg, if_pos h4, if_neg (show ¬ (goodB k n s = true ∧ k ≠ 4) from fun h => h.2 h4)]; rfl
    · have hx : goodB k n s = true ∧ k ≠ 4 := ⟨hg, h4⟩
      simp only [if_pos hg, if_neg h4, if_pos hx]
      rw [rshow10 r hr k n s hn hg h4]; rfl
  · simp only [if_neg hg, if_neg (show ¬ (goodB k n s = true ∧ k ≠ 4) from fun h => hg h.1)]; rw [rfail10 (by omega) (by omega)]; rfl
theorem fault_kind (k n : Int) (s : ByteArray) : (faultV k n s).1 = 0 ∨ (faultV k n s).1 = 4 := by
  unfold faultV
  split
  · split
    · rename_i h; exact .inr h
    · exact .inl rfl
  · exact .inr rfl
theorem num_kind (k n : Int) (s : ByteArray) : (numV k n s).2.1 = 0 ∨ (numV k n s).2.1 = 4 := by
  unfold numV
  split
  · split
    · split
      · exact .inl rfl
      · exact .inr rfl
    · exact .inl rfl
  · exact fault_kind k n s
theorem flag_kind (k n : Int) (s : ByteArray) : (flagV k n s).2.1 = 0 ∨ (flagV k n s).2.1 = 4 := by
  unfold flagV
  split
  · split
    · split
      · exact .inl rfl
      · split
        · exact .inl rfl
        · exact .inr rfl
    · exact .inl rfl
  · exact fault_kind k n s
theorem str_kind (k n : Int) (s : ByteArray) : (strV k n s).2.1 = 0 ∨ (strV k n s).2.1 = 4 := by
  unfold strV
  split
  · exact .inl rfl
  · exact fault_kind k n s
def prodL : List UInt8 := [80, 82, 79, 68, 85, 67, 84]
def avgL : List UInt8 := [65, 86, 71]
def totSt (name : ByteArray) : Int → Int → Int → Int × Bool := if name.toList = prodL then mulSt else addSt
def totEnd (name : ByteArray) (len : Int) (t : Int × Int × Int × ByteArray) : Int × Int × ByteArray × Bool :=
  if t.2.1 = 0 then (if name.toList = avgL then (if len = 0 then (4, 1, noB, true) else (2, (divS t.1 len).1, noB, true)) else (2, t.1, noB, true)) else withT t.2
theorem total_loop (name : ByteArray) (l : List S26) (hl : l.length ≤ 4398046511104) (hw : ∀ x ∈ l, I64 x.f1) :
    ∀ (d i k : Nat) (n : Int), i + d = l.length → d + 2110 < k → I64 n → pannierref10_total.l0 k name l n (i : Int) = some (totEnd name (l.length : Int) (numsV (totSt name) (l.drop i) n (i : Int))) := by
  intro d
  induction d with
  | zero =>
    intro i k n hi hk hn
    obtain ⟨k, rfl⟩ : ∃ m, k = m + 1 := ⟨k - 1, by omega⟩
    rw [pannierref10_total.l0, if_neg (by omega), List.drop_of_length_le (by omega)]
    unfold numsV totEnd avgL
    rw [if_pos rfl]
    by_cases ha : name.toList = ([65, 86, 71] : List UInt8)
    · rw [if_pos ha, if_pos ha]
      by_cases h0 : (l.length : Int) = 0
      · rw [if_pos h0, if_pos h0, rfault10 (by omega) (by omega)]; rfl
      · obtain ⟨k, rfl⟩ : ∃ m, k = m + 1 := ⟨k - 1, by omega⟩
        rw [if_neg h0, if_neg h0, rdiv_eq k _ _ hn (by unfold I64; omega)]; rfl
    · rw [if_neg ha, if_neg ha]; rfl
  | succ d ih =>
    intro i k n hi hk hn
    obtain ⟨k, rfl⟩ : ∃ m, k = m + 1 := ⟨k - 1, by omega⟩
    have hlt : i < l.length := by omega
    have hd : l.drop i = l[i] :: l.drop (i + 1) := List.drop_eq_getElem_cons hlt
    have hv : I64 (nV l[i]).1 := numV_in (hw _ (List.getElem_mem hlt))
    rw [pannierref10_total.l0, if_pos (by omega), if_pos (by omega), rdV hlt, wrap_next hlt (by omega), hd, rnum10 k (by omega), Option.bind_some]
    unfold numsV
    rcases num_kind l[i].f0 l[i].f1 l[i].f2 with h0 | h4
    · have h0' : (nV l[i]).2.1 = 0 := h0
      rw [if_neg (by simp only; omega), if_pos h0']
      obtain ⟨k, rfl⟩ : ∃ m, k = m + 1 := ⟨k - 1, by omega⟩
      have e1 : (numV l[i].f0 l[i].f1 l[i].f2).1 = (nV l[i]).1 := rfl
      simp only [e1]
      rw [radd_eq k n _ hn hv, Option.bind_some]
      unfold totSt
      by_cases hp : name.toList = prodL
      · have hp' : name.toList = ([80, 82, 79, 68, 85, 67, 84] : List UInt8) := hp
        rw [if_pos hp', rmul_eq (k + 1) (by omega) n _ hn hv, Option.bind_some]
        have ihp := ih (i + 1) (k + 1) (mulSt n (nV l[i]).1 (i : Int)).1 (by omega) (by omega) (fit_in1 _)
        unfold totSt at ihp
        rw [if_pos hp] at ihp ⊢
        by_cases hb : (mulSt n (nV l[i]).1 (i : Int)).2 = true
        · have hb' : (fit (n * (nV l[i]).1)).2 = true := hb
          rw [if_pos hb', if_pos hb]
          exact ihp
        · have hb' : ¬ (fit (n * (nV l[i]).1)).2 = true := hb
          rw [if_neg hb', if_neg hb, rfault10 (by omega) (by omega)]; rfl
      · have hp' : ¬ name.toList = ([80, 82, 79, 68, 85, 67, 84] : List UInt8) := hp
        rw [if_neg hp']
        have ihp := ih (i + 1) (k + 1) (addSt n (nV l[i]).1 (i : Int)).1 (by omega) (by omega) (fit_in1 _)
        unfold totSt at ihp
        rw [if_neg hp] at ihp ⊢
        by_cases hb : (addSt n (nV l[i]).1 (i : Int)).2 = true
        · have hb' : (fit (n + (nV l[i]).1)).2 = true := hb
          rw [if_pos hb', if_pos hb]
          exact ihp
        · have hb' : ¬ (fit (n + (nV l[i]).1)).2 = true := hb
          rw [if_neg hb', if_neg hb, rfault10 (by omega) (by omega)]; rfl
    · have h4' : (nV l[i]).2.1 = 4 := h4
      rw [if_pos (by exact h4), if_neg (by omega)]
      unfold totEnd
      rw [if_neg (by simp only; omega)]
      rfl
theorem total_eq (name : ByteArray) (l : List S26) (hl : l.length ≤ 4398046511104) (hw : ∀ x ∈ l, I64 x.f1) (k : Nat) (hk : l.length + 2112 < k) :
    pannierref10_total.f k name l = some (totEnd name (l.length : Int) (numsV (totSt name) l (if name.toList = prodL then 1 else 0) 0)) := by
  obtain ⟨k, rfl⟩ : ∃ m, k = m + 1 := ⟨k - 1, by omega⟩
  have h := fun n hn => total_loop name l hl hw l.length 0 k n (by omega) (by omega) hn
  unfold pannierref10_total.f
  by_cases hp : name.toList = prodL
  · have hp' : name.toList = ([80, 82, 79, 68, 85, 67, 84] : List UInt8) := hp
    rw [if_pos hp', if_pos hp, pannierref10_total.j0]
    exact h 1 (by unfold I64; omega)
  · have hp' : ¬ name.toList = ([80, 82, 79, 68, 85, 67, 84] : List UInt8) := hp
    rw [if_neg hp', if_neg hp, pannierref10_total.j0]
    exact h 0 (by unfold I64; omega)
def minL : List UInt8 := [77, 73, 78]
def maxL : List UInt8 := [77, 65, 88]
def endBt (name : ByteArray) : Int → Int → Bool := if name.toList = minL then lessB else moreB
def endEnd (len : Int) (t : Int × Int × Int × ByteArray) : Int × Int × ByteArray × Bool := if t.2.1 = 0 then (if len = 0 then (4, 8, noB, true) else (2, t.1, noB, true)) else withT t.2
theorem best_all (bt : Int → Int → Bool) (n b i : Int) : (bestS bt n b i).2 = true := by
  unfold bestS
  split
  · rfl
  · split <;> rfl
theorem end_loop (name : ByteArray) (hname : name.toList = minL ∨ name.toList = maxL) (l : List S26) (hl : l.length ≤ 4398046511104) :
    ∀ (d i k : Nat) (n : Int), i + d = l.length → d + 2110 < k → pannierref10_end.l0 k name l n (i : Int) = some (endEnd (l.length : Int) (numsV (bestS (endBt name)) (l.drop i) n (i : Int))) := by
  intro d
  induction d with
  | zero =>
    intro i k n hi hk
    obtain ⟨k, rfl⟩ : ∃ m, k = m + 1 := ⟨k - 1, by omega⟩
    rw [pannierref10_end.l0, if_neg (by omega), List.drop_of_length_le (by omega)]
    unfold numsV endEnd
    rw [if_pos rfl]
    by_cases h0 : (l.length : Int) = 0
    · rw [if_pos h0, if_pos h0, rfault10 (by omega) (by omega)]; rfl
    · rw [if_neg h0, if_neg h0]; rfl
  | succ d ih =>
    intro i k n hi hk
    obtain ⟨k, rfl⟩ : ∃ m, k = m + 1 := ⟨k - 1, by omega⟩
    have hlt : i < l.length := by omega
    have hd : l.drop i = l[i] :: l.drop (i + 1) := List.drop_eq_getElem_cons hlt
    rw [pannierref10_end.l0, if_pos (by omega), if_pos (by omega), rdV hlt, wrap_next hlt (by omega), hd, rnum10 k (by omega), Option.bind_some]
    unfold numsV
    rcases num_kind l[i].f0 l[i].f1 l[i].f2 with h0 | h4
    · have h0' : (nV l[i]).2.1 = 0 := h0
      rw [if_neg (by simp only; omega), if_pos h0']
      have e1 : (numV l[i].f0 l[i].f1 l[i].f2).1 = (nV l[i]).1 := rfl
      simp only [e1]
      have ihn := fun n => ih (i + 1) k n (by omega) (by omega)
      have hT : ∀ n b i, (bestS (endBt name) n b i).2 = true := by intro n b i; exact (best_all _ n b i)
      rw [if_pos (hT _ _ _)]
      generalize (nV l[i]).1 = b at *
      unfold bestS endBt at ihn ⊢
      by_cases hi0 : (i : Int) = 0
      · rw [if_pos hi0, if_pos hi0]; exact ihn b
      · rw [if_neg hi0, if_neg hi0]
        rcases hname with hm | hm
        · have hm' : name.toList = ([77, 73, 78] : List UInt8) := hm
          have hx : ¬ name.toList = ([77, 65, 88] : List UInt8) := by rw [hm']; decide
          rw [if_pos hm', if_pos hm, if_neg hx]
          by_cases hc : b < n
          · rw [if_pos hc, show lessB b n = true from decide_eq_true hc, if_pos rfl]
            rw [if_pos hm] at ihn; exact ihn b
          · rw [if_neg hc, show lessB b n = false from decide_eq_false hc, if_neg (by decide)]
            rw [if_pos hm] at ihn; exact ihn n
        · have hm' : name.toList = ([77, 65, 88] : List UInt8) := hm
          have hx : ¬ name.toList = ([77, 73, 78] : List UInt8) := by rw [hm']; decide
          have hx' : ¬ name.toList = minL := hx
          rw [if_neg hx, if_neg hx', if_pos hm']
          by_cases hc : b > n
          · rw [if_pos hc, show moreB b n = true from decide_eq_true hc, if_pos rfl]
            rw [if_neg hx'] at ihn; exact ihn b
          · rw [if_neg hc, show moreB b n = false from decide_eq_false hc, if_neg (by decide)]
            rw [if_neg hx'] at ihn; exact ihn n
    · have h4' : (nV l[i]).2.1 = 4 := h4
      rw [if_pos (by exact h4), if_neg (by omega)]
      unfold endEnd
      rw [if_neg (by simp only; omega)]
      rfl
theorem truth_loop (name : ByteArray) (l : List S26) (hl : l.length ≤ 4398046511104) :
    ∀ (d i k : Nat) (is : Bool), i + d = l.length → d < k → pannierref10_truth.l0 k name l is (i : Int) = some (withT (flagsV (decide (name.toList = ([65, 78, 68] : List UInt8))) (l.drop i) is)) := by
  intro d
  induction d with
  | zero =>
    intro i k is hi hk
    obtain ⟨k, rfl⟩ : ∃ m, k = m + 1 := ⟨k - 1, by omega⟩
    rw [pannierref10_truth.l0, if_neg (by omega), List.drop_of_length_le (by omega)]
    unfold flagsV
    cases is <;> rfl
  | succ d ih =>
    intro i k is hi hk
    obtain ⟨k, rfl⟩ : ∃ m, k = m + 1 := ⟨k - 1, by omega⟩
    have hlt : i < l.length := by omega
    have hd : l.drop i = l[i] :: l.drop (i + 1) := List.drop_eq_getElem_cons hlt
    rw [pannierref10_truth.l0, if_pos (by omega), if_pos (by omega), rdV hlt, wrap_next hlt (by omega), hd, rflag10, Option.bind_some]
    unfold flagsV
    rcases flag_kind l[i].f0 l[i].f1 l[i].f2 with h0 | h4
    · have h0' : (fV l[i]).2.1 = 0 := h0
      rw [if_neg (by simp only; omega), if_pos h0']
      have e1 : (flagV l[i].f0 l[i].f1 l[i].f2).1 = (fV l[i]).1 := rfl
      simp only [e1]
      have ihn := fun n => ih (i + 1) k n (by omega) (by omega)
      generalize (fV l[i]).1 = b at *
      by_cases hm : name.toList = ([65, 78, 68] : List UInt8)
      · rw [if_pos hm]
        simp only [decide_eq_true hm, if_true] at ihn ⊢
        cases is
        · rw [if_neg (by decide)]; exact ihn false
        · rw [if_pos rfl]; exact ihn b
      · rw [if_neg hm]
        simp only [decide_eq_false hm, Bool.false_eq_true, if_false] at ihn ⊢
        cases is
        · rw [if_neg (by decide)]; exact ihn b
        · rw [if_pos rfl]; exact ihn true
    · have h4' : (fV l[i]).2.1 = 4 := h4
      rw [if_pos (by exact h4), if_neg (by omega)]
      have e4 : (flagV l[i].f0 l[i].f1 l[i].f2).2 = (fV l[i]).2 := rfl
      simp only [e4]; rfl
theorem rjoin10 (k : Nat) (hk : 1 ≤ k) (a b : ByteArray) : pannierref09_Join.f k a b = some (joinS a b) := by
  obtain ⟨k, rfl⟩ : ∃ m, k = m + 1 := ⟨k - 1, by omega⟩
  unfold pannierref09_Join.f pannierref09_long.f joinS
  rw [Option.bind_some]
  have hof : ∀ s, pannierref03_Of.f s = some (if s.size ≤ 200 then (3, 0, s) else (4, 7, noB)) := by
    intro s
    unfold pannierref03_Of.f
    by_cases h : s.size ≤ 200
    · rw [if_neg (by omega), if_pos h]
    · rw [if_pos (by omega), if_neg h, rfail10 (by omega) (by omega)]; rfl
  by_cases ha : (a.size : Int) > 200
  · rw [if_pos (by simpa using ha), pannierref09_Join.j0, if_pos rfl, rfail10 (by omega) (by omega), if_neg (by omega)]; rfl
  · rw [if_neg (by simpa using ha), Option.bind_some, pannierref09_Join.j0]
    by_cases hb : (b.size : Int) > 200
    · rw [if_pos (by simpa using hb), rfail10 (by omega) (by omega), if_neg (by omega)]; rfl
    · rw [if_neg (by simpa using hb)]
      simp only [hof, Option.bind_some, ByteArray.size_append]
      by_cases hs : a.size + b.size ≤ 200
      · simp only [if_pos (show a.size + b.size ≤ 9223372036854775807 by omega), if_pos hs, if_pos (show a.size ≤ 200 ∧ b.size ≤ 200 ∧ a.size + b.size ≤ 200 from ⟨by omega, by omega, hs⟩)]
      · simp only [if_pos (show a.size + b.size ≤ 9223372036854775807 by omega), if_neg hs, if_neg (show ¬ (a.size ≤ 200 ∧ b.size ≤ 200 ∧ a.size + b.size ≤ 200) from fun h => hs h.2.2)]
theorem joinS_kind (a b : ByteArray) : (joinS a b).1 = 4 ∨ (joinS a b = (3, 0, a ++ b) ∧ (a ++ b).size ≤ 200) := by
  unfold joinS
  split
  · rename_i h; exact .inr ⟨rfl, by rw [ByteArray.size_append]; omega⟩
  · exact .inl rfl
theorem rof10 (s : ByteArray) (h : s.size ≤ 200) : pannierref03_Of.f s = some (3, 0, s) := by
  unfold pannierref03_Of.f; rw [if_neg (by omega)]
theorem rjoin_loop (l : List S26) (hl : l.length ≤ 4398046511104) (hw : ∀ x ∈ l, I64 x.f1) :
    ∀ (d i k : Nat) (s : ByteArray), i + d = l.length → d + 30 < k → s.size ≤ 200 → pannierref10_join.l0 k l s (i : Int) = some (withT (joinedV (l.drop i) (3, 0, s))) := by
  intro d
  induction d with
  | zero =>
    intro i k s hi hk hs
    obtain ⟨k, rfl⟩ : ∃ m, k = m + 1 := ⟨k - 1, by omega⟩
    rw [pannierref10_join.l0, if_neg (by omega), List.drop_of_length_le (by omega), rof10 s hs]; rfl
  | succ d ih =>
    intro i k s hi hk hs
    obtain ⟨k, rfl⟩ : ∃ m, k = m + 1 := ⟨k - 1, by omega⟩
    have hlt : i < l.length := by omega
    have hd : l.drop i = l[i] :: l.drop (i + 1) := List.drop_eq_getElem_cons hlt
    rw [pannierref10_join.l0, if_pos (by omega), if_pos (by omega), rdV hlt, wrap_next hlt (by omega), hd, rstr10 k (by omega) _ _ _ (hw _ (List.getElem_mem hlt)), Option.bind_some]
    unfold joinedV
    rcases str_kind l[i].f0 l[i].f1 l[i].f2 with h0 | h4
    · have h0' : (sV l[i]).2.1 = 0 := h0
      rw [if_neg (by simp only; omega), if_pos h0']
      have e1 : (strV l[i].f0 l[i].f1 l[i].f2).1 = (sV l[i]).1 := rfl
      simp only [e1]
      rw [rjoin10 k (by omega), Option.bind_some]
      rcases joinS_kind s (sV l[i]).1 with hj | ⟨hj, hz⟩
      · rw [if_pos hj, if_pos hj]; rfl
      · rw [hj, if_neg (by simp only; omega), if_neg (by simp only; omega)]
        exact ih (i + 1) k _ (by omega) (by omega) hz
    · have h4' : (sV l[i]).2.1 = 4 := h4
      rw [if_pos (by exact h4), if_neg (by omega)]
      have e4 : (strV l[i].f0 l[i].f1 l[i].f2).2 = (sV l[i]).2 := rfl
      simp only [e4]; rfl
theorem full_cons0 {x : S26} (r : List S26) (h : x.f0 = 0) : fullV (x :: r) = fullV r := by simp [fullV, h]
theorem full_cons1 {x : S26} (r : List S26) (h : ¬ x.f0 = 0) : fullV (x :: r) = x :: fullV r := by simp [fullV, h]
theorem ints_cons0 {x : S26} (r : List S26) (h : ¬ x.f0 = 2) : intsV (x :: r) = intsV r := by simp [intsV, h]
theorem ints_cons1 {x : S26} (r : List S26) (h : x.f0 = 2) : intsV (x :: r) = x :: intsV r := by simp [intsV, h]
theorem rfull_loop (l : List S26) (hl : l.length < 4398046511104) : ∀ (d i k : Nat) (m : List S26), i + d = l.length → d < k → m.length ≤ i → pannierref10_full.l0 k l m (i : Int) = some (m ++ fullV (l.drop i)) := by
  intro d
  induction d with
  | zero =>
    intro i k m hi hk hm
    obtain ⟨k, rfl⟩ : ∃ m, k = m + 1 := ⟨k - 1, by omega⟩
    rw [pannierref10_full.l0, if_neg (by omega), List.drop_of_length_le (by omega)]
    simp [fullV]
  | succ d ih =>
    intro i k m hi hk hm
    obtain ⟨k, rfl⟩ : ∃ m, k = m + 1 := ⟨k - 1, by omega⟩
    have hlt : i < l.length := by omega
    have hd : l.drop i = l[i] :: l.drop (i + 1) := List.drop_eq_getElem_cons hlt
    rw [pannierref10_full.l0, if_pos (by omega), if_pos (by omega), rdV hlt, wrap_next hlt (by omega), hd]
    by_cases h0 : l[i].f0 = 0
    · rw [if_pos h0, ih (i + 1) k m (by omega) (by omega) (by omega), full_cons0 _ h0]
    · rw [if_neg h0, if_pos (by omega), ih (i + 1) k _ (by omega) (by omega) (by simp; omega), full_cons1 _ h0, List.append_assoc]; rfl
theorem rfull_eq (l : List S26) (hl : l.length < 4398046511104) (k : Nat) (hk : l.length < k) : pannierref10_full.f k l = some (fullV l) := by
  have := rfull_loop l hl l.length 0 k [] (by omega) hk (by simp)
  exact this
theorem rcount_loop (l : List S26) (hl : l.length ≤ 4398046511104) : ∀ (d i k n : Nat), i + d = l.length → d < k → n ≤ i → pannierref10_Of.l0 k l (n : Int) (i : Int) = some (2, ((n + (intsV (l.drop i)).length : Nat) : Int), noB, true) := by
  intro d
  induction d with
  | zero =>
    intro i k n hi hk hn
    obtain ⟨k, rfl⟩ : ∃ m, k = m + 1 := ⟨k - 1, by omega⟩
    rw [pannierref10_Of.l0, if_neg (by omega), List.drop_of_length_le (by omega)]
    simp [intsV, pannierref10_num.f]; rfl
  | succ d ih =>
    intro i k n hi hk hn
    obtain ⟨k, rfl⟩ : ∃ m, k = m + 1 := ⟨k - 1, by omega⟩
    have hlt : i < l.length := by omega
    have hd : l.drop i = l[i] :: l.drop (i + 1) := List.drop_eq_getElem_cons hlt
    rw [pannierref10_Of.l0, if_pos (by omega), if_pos (by omega), rdV hlt, wrap_next hlt (by omega), hd]
    by_cases h0 : l[i].f0 = 2
    · rw [if_pos h0, M.wrap64_id (by unfold I64; omega), show (n : Int) + 1 = ((n + 1 : Nat) : Int) by omega, ih (i + 1) k (n + 1) (by omega) (by omega) (by omega)]
      rw [ints_cons1 _ h0, List.length_cons]
      congr 3; omega
    · rw [if_neg h0, ih (i + 1) k n (by omega) (by omega) (by omega)]
      rw [ints_cons0 _ h0]
theorem rof_eq (a0 : ByteArray) (l : List S26) (hl : l.length < 4398046511104) (hw : ∀ x ∈ l, I64 x.f1) (k : Nat) (hk : l.length + 2120 < k) : pannierref10_Of.f k a0 l = some (ofV a0.toList (fullV l)) := by
  unfold pannierref10_Of.f
  rw [rfull_eq l hl k (by omega), Option.bind_some]
  have hm := full_all (l := l) hw
  have hlen := full_le l
  generalize fullV l = m at *
  obtain ⟨k, rfl⟩ : ∃ x, k = x + 3 := ⟨k - 3, by omega⟩
  have hT := total_eq a0 m (by omega) hm (k + 2) (by omega)
  have hE := fun h => end_loop a0 h m (by omega) m.length 0 (k + 1) 0 (by omega) (by omega)
  have hB := truth_loop a0 m (by omega) m.length 0 k (a0.toList == ([65, 78, 68] : List UInt8)) (by omega) (by omega)
  have hJ := rjoin_loop m (by omega) hm m.length 0 k noB (by omega) (by omega) (by decide)
  have hC := rcount_loop m (by omega) m.length 0 k 0 (by omega) (by omega) (by omega)
  unfold ofV
  simp only [pannierref10_Of.j0, pannierref10_Of.j1, pannierref10_Of.j2, pannierref10_end.f, pannierref10_truth.f, pannierref10_join.f]
  rw [hT]
  unfold totEnd totSt prodL avgL at hT
  by_cases h1 : a0.toList = ([83, 85, 77] : List UInt8)
  · rw [if_pos h1, if_pos h1, if_pos (by simpa using h1), Option.bind_some]
    unfold totEnd totSt prodL avgL toldV
    have hp : ¬ a0.toList = ([80, 82, 79, 68, 85, 67, 84] : List UInt8) := by rw [h1]; decide
    have ha : ¬ a0.toList = ([65, 86, 71] : List UInt8) := by rw [h1]; decide
    simp only [if_neg hp, if_neg ha]
    split <;> rfl
  rw [if_neg h1, if_neg h1]
  by_cases h2 : a0.toList = ([80, 82, 79, 68, 85, 67, 84] : List UInt8)
  · rw [if_pos h2, if_pos h2, if_pos (by simpa using h2), Option.bind_some]
    unfold totEnd totSt prodL avgL toldV
    have ha : ¬ a0.toList = ([65, 86, 71] : List UInt8) := by rw [h2]; decide
    simp only [if_pos h2, if_neg ha]
    split <;> rfl
  rw [if_neg h2, if_neg h2]
  by_cases h5 : a0.toList = ([65, 86, 71] : List UInt8)
  · have h3 : ¬ a0.toList = ([77, 73, 78] : List UInt8) := by rw [h5]; decide
    have h4 : ¬ a0.toList = ([77, 65, 88] : List UInt8) := by rw [h5]; decide
    rw [if_pos (by simpa using h5), if_neg h3, if_neg h4, if_pos h5, Option.bind_some]
    unfold totEnd totSt prodL avgL meanV
    simp only [if_neg h2, if_pos h5]
    by_cases hz : (numsV addSt m 0 0).2.1 = 0
    · rw [if_pos hz, if_pos hz]
      by_cases hn : m.length = 0
      · rw [if_pos (by omega), if_pos hn]; try rfl
      · rw [if_neg (by omega), if_neg hn]; rfl
    · rw [if_neg hz, if_neg hz]
  rw [if_neg (by simpa using h5)]
  by_cases h3 : a0.toList = ([77, 73, 78] : List UInt8)
  · have he := hE (.inl h3)
    rw [if_pos h3, if_pos h3, if_pos (by simpa using h3)]
    rw [show ((0 : Nat) : Int) = 0 from rfl] at he
    rw [he, Option.bind_some]
    have hb : endBt a0 = lessB := by unfold endBt; rw [if_pos (show a0.toList = minL from h3)]
    rw [hb, List.drop_zero]
    unfold endEnd bestV toldV
    by_cases hn : m.length = 0
    · have : m = [] := List.length_eq_zero_iff.1 hn
      subst this; rfl
    · simp only [if_neg hn, if_neg (show ¬ (m.length : Int) = 0 by omega)]
      split <;> rfl
  rw [if_neg h3, if_neg h3]
  by_cases h4 : a0.toList = ([77, 65, 88] : List UInt8)
  · have he := hE (.inr h4)
    rw [if_pos h4, if_pos (by simpa using h4)]
    rw [show ((0 : Nat) : Int) = 0 from rfl] at he
    rw [he, Option.bind_some]
    have hb : endBt a0 = moreB := by unfold endBt; rw [if_neg (show ¬ a0.toList = minL from h3)]
    rw [hb, List.drop_zero]
    unfold endEnd bestV toldV
    by_cases hn : m.length = 0
    · have : m = [] := List.length_eq_zero_iff.1 hn
      subst this; rfl
    · simp only [if_neg hn, if_neg (show ¬ (m.length : Int) = 0 by omega)]
      split <;> rfl
  rw [if_neg h4, if_neg (by simpa using h4), if_neg h5]
  by_cases h6 : a0.toList = ([65, 78, 68] : List UInt8)
  · rw [if_pos h6, if_pos h6, if_pos (by simpa using h6)]
    rw [show ((0 : Nat) : Int) = 0 from rfl] at hB
    rw [hB, Option.bind_some, decide_eq_true h6, show (a0.toList == ([65, 78, 68] : List UInt8)) = true by simpa using h6]; rfl
  rw [if_neg h6, if_neg h6]
  by_cases h7 : a0.toList = ([79, 82] : List UInt8)
  · rw [if_pos h7, if_pos (by simpa using h7)]
    rw [show ((0 : Nat) : Int) = 0 from rfl] at hB
    rw [hB, Option.bind_some, decide_eq_false h6, show (a0.toList == ([65, 78, 68] : List UInt8)) = false by simpa using h6]; rfl
  rw [if_neg h7, if_neg (by simpa using h7)]
  by_cases h8 : a0.toList = ([74, 79, 73, 78] : List UInt8)
  · rw [if_pos h8, if_pos h8]
    rw [show ((0 : Nat) : Int) = 0 from rfl] at hJ
    have hJ' : pannierref10_join.l0 k m (⟨#[]⟩ : ByteArray) 0 = _ := hJ
    rw [hJ', Option.bind_some]; rfl
  rw [if_neg h8, if_neg h8]
  by_cases h9 : a0.toList = ([67, 79, 85, 78, 84] : List UInt8)
  · rw [if_pos h9, if_pos h9]
    rw [show ((0 : Nat) : Int) = 0 from rfl, List.drop_zero, Nat.zero_add] at hC
    exact hC
  rw [if_neg h9, if_neg h9]
  by_cases h10 : a0.toList = ([67, 79, 85, 78, 84, 65] : List UInt8)
  · rw [if_pos h10, if_pos h10]; rfl
  · rw [if_neg h10, if_neg h10]; rfl
theorem keepvs_loop (l : List S26) (hl : l.length ≤ 4398046511104) : ∀ (d i k : Nat), i + d = l.length → d < k → pannierkeep_Values.l0 k l l (i : Int) = some true := by
  intro d
  induction d with
  | zero =>
    intro i k hi hk
    obtain ⟨k, rfl⟩ : ∃ m, k = m + 1 := ⟨k - 1, by omega⟩
    rw [pannierkeep_Values.l0, if_neg (by omega)]
  | succ d ih =>
    intro i k hi hk
    obtain ⟨k, rfl⟩ : ∃ m, k = m + 1 := ⟨k - 1, by omega⟩
    have hlt : i < l.length := by omega
    rw [pannierkeep_Values.l0, if_pos (by omega), if_pos (by omega), if_pos (by omega), keepv_self, Option.bind_some, if_pos rfl, wrap_next hlt (by omega), ih (i + 1) k (by omega) (by omega)]
theorem FoldOf_pure (a0 : ByteArray) (l : List S26) (h0 : a0.size ≤ 140737488351232) (hl : l.length * 32 ≤ 140737488351232) (hw : ∀ x ∈ l, (Lit.int .i64 x.f0).wf = true ∧ (Lit.int .i64 x.f1).wf = true) : ∃ k, pannierlaw10_FoldOf.f k a0 l = some true := by
  have hw' : ∀ x ∈ l, I64 x.f1 := fun x hx => M.i64wf (hw x hx).2
  have hl' : l.length ≤ 4398046510976 := by omega
  have hj : ∀ q, pannierlaw10_FoldOf.j0 (l.length + 2121 + 1) a0 l q = some true := by
    intro q
    rw [pannierlaw10_FoldOf.j0]
    cases q
    · rw [if_neg (by decide), Option.bind_some, if_pos (by simp; omega), List.nil_append, Option.bind_some, of_eq a0 l (by omega) hw', Option.bind_some, rof_eq a0 l (by omega) hw' _ (by omega), Option.bind_some, keepv_self, Option.bind_some, if_pos rfl, if_pos (by simp)]
      have hv : pannierkeep_Values.f (l.length + 2121) l l = some true := by
        unfold pannierkeep_Values.f
        rw [if_pos rfl]
        exact keepvs_loop l (by omega) l.length 0 _ (by omega) (by omega)
      rw [hv, Option.bind_some, if_pos rfl, wakes10]; rfl
    · rw [if_pos rfl, wakes10]; rfl
  refine ⟨l.length + 2121 + 1, ?_⟩
  unfold pannierlaw10_FoldOf.f
  rw [fair_eq l _ (by omega) (by omega), Option.bind_some, hj, hj, ite_self]
end Go.Proofs.YtmdmpafdpgdpoaaGreatDoor.P
