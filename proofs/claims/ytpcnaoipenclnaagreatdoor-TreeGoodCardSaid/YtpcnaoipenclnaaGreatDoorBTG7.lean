/- Contracts of the functions that the law reaches, each with the plain function that it comes to, and plain facts about these. -/
import Derived.Test.YtpcnaoipenclnaaGreatDoorBTD2
import Derived.Test.YtpcnaoipenclnaaGreatDoorBTG6
namespace Go.Proofs.YtpcnaoipenclnaaGreatDoor.P
open Go.RowKit Go.Proofs.YtpcnaoipenclnaaGreatDoorW.PrintWords Go.Proofs.YtpcnaoipenclnaaGreatDoorW.PrintLast Go.Proofs.YtpcnaoipenclnaaGreatDoorW.PrintMore
open M (I64)
set_option linter.unusedVariables false
set_option linter.unusedSimpArgs false
theorem xt_len (s : ByteArray) : s.data.toList.length = s.size := Array.length_toList
theorem bu_part (s : ByteArray) (m i : Nat) (h : i < m) : bu (s.extract 0 m) i = bu s i := by
  unfold bu
  rw [cp_rest, List.drop_zero, List.getD_eq_getElem?_getD, List.getD_eq_getElem?_getD, List.getElem?_take_of_lt (by omega)]
theorem bu_up (s : ByteArray) (i : Nat) (h : i < s.size) : bu (upS s) i = upC (bu s i) := by
  have hl := xt_len s
  unfold bu upS upL
  rw [List.getD_eq_getElem?_getD, List.getD_eq_getElem?_getD]
  show ((s.data.toList.map upC)[i]?).getD 0 = _
  rw [List.getElem?_map, List.getElem?_eq_getElem (by omega)]
  rfl
theorem up_size (s : ByteArray) : (upS s).size = s.size := by
  show (s.data.toList.map upC).length = s.size
  rw [List.length_map]; exact xt_len s
theorem part_size (s : ByteArray) (m : Nat) (h : m ≤ s.size) : (s.extract 0 m).size = m := by rw [ByteArray.size_extract]; omega
theorem up_byte (c : UInt8) : (65 ≤ c.toNat ∧ c.toNat ≤ 90) ∨ (97 ≤ c.toNat ∧ c.toNat ≤ 122) → 65 ≤ (upC c).toNat ∧ (upC c).toNat ≤ 90 := by
  have : ∀ c : Fin 256, (65 ≤ c.val ∧ c.val ≤ 90) ∨ (97 ≤ c.val ∧ c.val ≤ 122) → 65 ≤ (upC (UInt8.ofNat c.val)).toNat ∧ (upC (UInt8.ofNat c.val)).toNat ≤ 90 := by decide +kernel
  have h := this ⟨c.toNat, c.toNat_lt⟩
  simpa using h
theorem up_num (c : UInt8) (h : 48 ≤ c.toNat ∧ c.toNat ≤ 57) : upC c = c := by
  unfold upC; rw [if_neg (by omega)]
theorem one_ok (s : ByteArray) (h0 : 0 < s.size) : ((oneV s).1 = 1 → 0 ≤ (oneV s).2.1) ∧ ((oneV s).1 = 3 → NameB (oneV s).2.2.1) ∧ (oneV s).2.2.1.size ≤ s.size := by
  unfold oneV
  by_cases h2 : kindOf (bt s 0) = 2
  · rw [if_pos h2]
    by_cases hp : (pI (s.extract 0 (digN s))).2 = true
    · rw [if_pos hp]
      refine ⟨fun _ => ?_, fun h => (by cases h), Nat.zero_le _⟩
      show 0 ≤ (pI (s.extract 0 (digN s))).1
      cases e : (s.extract 0 (digN s)).data.toList with
      | nil => unfold pI; rw [e]; exact Int.le_refl _
      | cons c r =>
        refine pI_ge e ?_
        have hb := num_byte s 0 h2
        rw [cp_rest, List.drop_zero] at e
        have hc : bu s 0 = c := by
          unfold bu
          cases el : s.data.toList with
          | nil => rw [el] at e; simp at e
          | cons a l =>
            rw [el] at e
            cases ed : digN s - 0 with
            | zero => rw [ed] at e; cases e
            | succ j => rw [ed, List.take_succ_cons] at e; cases e; rfl
        rw [hc] at hb; omega
    · rw [if_neg hp]; exact ⟨fun h => (by cases h), fun h => (by cases h), Nat.zero_le _⟩
  · rw [if_neg h2]
    by_cases h4 : kindOf (bt s 0) = 4
    · rw [if_pos h4]
      exact ⟨fun h => (by cases h), fun h => (by cases h), textF_size s (s.size + 1) 1 [] (Nat.zero_le _)⟩
    · rw [if_neg h4]
      by_cases h3 : kindOf (bt s 0) = 3
      · rw [if_pos h3]
        have hw : wordN s ≤ s.size := (runN_le wordP s s.size 0 (Nat.zero_le _)).1
        have hsz : (upS (s.extract 0 (wordN s))).size = wordN s := by rw [up_size, part_size s _ hw]
        refine ⟨fun h => (by cases h), fun _ => ?_, by show (upS (s.extract 0 (wordN s))).size ≤ s.size; rw [hsz]; exact hw⟩
        refine ⟨?_, fun i hi => ?_⟩
        · show 0 < (upS (s.extract 0 (wordN s))).size
          rw [hsz]
          unfold wordN
          obtain ⟨d, hd⟩ : ∃ d, s.size = d + 1 := ⟨s.size - 1, by omega⟩
          rw [hd, cp_runN, if_pos (by omega), if_pos (by rw [show ((0 : Nat) : Int) = 0 from rfl, h3]; rfl)]
          have := (runN_le wordP s d (0 + 1) (by omega)).2
          omega
        · change i < (upS (s.extract 0 (wordN s))).size at hi
          rw [hsz] at hi
          show (65 ≤ (bu (upS (s.extract 0 (wordN s))) i).toNat ∧ _) ∨ _
          rw [bu_up _ _ (by rw [part_size s _ hw]; exact hi), bu_part _ _ _ hi]
          have hk := runN_all wordP s s.size 0 i (Nat.zero_le _) hi
          unfold wordP at hk
          rw [Bool.or_eq_true, beq_iff_eq, beq_iff_eq] at hk
          rcases hk with hk | hk
          · exact .inl (up_byte _ (let_byte s i hk))
          · have hb := num_byte s i hk
            refine .inr ⟨?_, by rw [up_num _ hb]; exact hb⟩
            by_cases hi0 : i = 0
            · subst hi0; exact absurd (hk.symm.trans h3) (by decide)
            · omega
      · rw [if_neg h3]
        by_cases h5 : kindOf (bt s 0) = 5
        · rw [if_pos h5]
          refine ⟨fun h => (by cases h), fun h => (by cases h), ?_⟩
          show (s.extract 0 (signsV s)).size ≤ s.size
          rw [ByteArray.size_extract]; omega
        · rw [if_neg h5]; exact ⟨fun h => (by cases h), fun h => (by cases h), Nat.zero_le _⟩
theorem cutL_ok (L : Nat) : ∀ (d : Nat) (l : List UInt8) (n : Nat) (ts : List LTok) (p e : Int), l.length ≤ L → cutL d l n = (ts, p, e) → 0 ≤ p ∧ (e = 0 ∨ e = 12) ∧ (e = 0 → (∀ t ∈ ts, TokOk L t) ∧ ts.length ≤ l.length) := by
  intro d
  induction d with
  | zero => intro l n ts p e hl h; rw [cutL] at h; cases h; exact ⟨by decide, .inl rfl, fun _ => ⟨fun t ht => (by cases ht), Nat.zero_le _⟩⟩
  | succ d ih =>
    intro l n ts p e hl h
    cases l with
    | nil => rw [cutL_nil] at h; cases h; exact ⟨by decide, .inl rfl, fun _ => ⟨fun t ht => (by cases ht), Nat.zero_le _⟩⟩
    | cons c r =>
      have hlr : r.length + 1 ≤ L := by rw [List.length_cons] at hl; exact hl
      rw [cutL] at h
      by_cases hk : kindOf (c.toNat : Int) = 1
      · rw [if_pos hk] at h
        obtain ⟨h1, h2, h3⟩ := ih r (n + 1) ts p e (by omega) h
        exact ⟨h1, h2, fun he => ⟨(h3 he).1, by rw [List.length_cons]; have := (h3 he).2; omega⟩⟩
      · rw [if_neg hk] at h
        obtain ⟨w, hw, hwl⟩ := one_w c r
        obtain ⟨o1, o2, o3⟩ := one_ok ⟨(c :: r).toArray⟩ (by rw [cp_len, List.length_cons]; omega)
        have o3 : (oneV ⟨(c :: r).toArray⟩).2.2.1.size ≤ r.length + 1 := o3
        generalize oneV ⟨(c :: r).toArray⟩ = t at *
        obtain ⟨ta, tb, tc, td, tm⟩ := t
        have hw' : tm = (w : Int) := hw
        subst hw'
        dsimp only at h o1 o2 o3
        by_cases hz : (w : Int) = 0
        · rw [if_pos hz] at h; cases h; exact ⟨by omega, .inr rfl, fun he => (by cases he)⟩
        · rw [if_neg hz, Int.toNat_natCast] at h
          cases e2 : cutL d (List.drop w (c :: r)) (n + w) with
          | mk ts2 x =>
            obtain ⟨p2, f2⟩ := x
            have hdl : (List.drop w (c :: r)).length = r.length + 1 - w := by rw [List.length_drop, List.length_cons]
            obtain ⟨h1, h2, h3⟩ := ih _ _ _ _ _ (by omega) e2
            rw [e2] at h
            dsimp only at h
            by_cases he : f2 = 0
            · rw [if_pos he] at h
              cases h
              refine ⟨h1, h2, fun _ => ⟨fun t ht => ?_, ?_⟩⟩
              · rcases List.mem_cons.1 ht with rfl | ht
                · exact ⟨o1, o2, by show tc.size ≤ L; omega, by show (0 : Int) ≤ (n : Int); omega⟩
                · exact (h3 he).1 t ht
              · have := (h3 he).2
                rw [List.length_cons, List.length_cons]; omega
            · rw [if_neg he] at h; cases h; exact ⟨h1, h2, fun h => absurd h he⟩
theorem cutL_p : ∀ (d : Nat) (l : List UInt8) (n : Nat) (ts : List LTok) (p : Int), cutL d l n = (ts, p, 0) → p = 0 := by
  intro d
  induction d with
  | zero => intro l n ts p h; rw [cutL] at h; cases h; rfl
  | succ d ih =>
    intro l n ts p h
    cases l with
    | nil => rw [cutL_nil] at h; cases h; rfl
    | cons c r =>
      rw [cutL] at h
      by_cases hk : kindOf (c.toNat : Int) = 1
      · rw [if_pos hk] at h; exact ih _ _ _ _ h
      · rw [if_neg hk] at h
        generalize oneV ⟨(c :: r).toArray⟩ = t at *
        obtain ⟨ta, tb, tc, td, tm⟩ := t
        dsimp only at h
        by_cases hz : tm = 0
        · rw [if_pos hz] at h; cases h
        · rw [if_neg hz] at h
          cases e : cutL d (List.drop tm.toNat (c :: r)) (n + tm.toNat) with
          | mk ts2 x =>
            obtain ⟨p2, e2⟩ := x
            rw [e] at h
            dsimp only at h
            by_cases he : e2 = 0
            · subst he
              rw [if_pos rfl] at h
              cases h
              exact ih _ _ _ _ e
            · rw [if_neg he] at h; cases h; exact absurd rfl he
inductive ParseR (s : ByteArray) : NodeR → Prop where
  | bad (p c : Int) (hp : 0 ≤ p) (hc : c ≠ 0) : ParseR s (badR p c)
  | ok (t : TN) (c : Nat) (k : Nat) (d : Int) (hc : c ≤ 300) (hf : Fine c t) (hd : depO k t = some d) (h16 : d ≤ 16) (toks : List Tok) (hcut : cutL s.size s.data.toList 0 = (toks, 0, 0)) (hform : (lv toks (s.size : Int) 41).form 0 = (.ok t, toks.length)) : ParseR s (nodeR t 0 0)
theorem parse_cut (s : ByteArray) (hs : s.size ≤ 300) (k : Nat) (hk : 900 ≤ k) (ts : List LTok) (p e : Int) (h : cutL s.size s.data.toList 0 = (ts, p, e)) :
    tree_Parse.f k s = if e ≠ 0 then some (badR p e) else tokR k ts (s.size : Int) := by
  have hl := xt_len s
  obtain ⟨h1, h2, h3⟩ := cutL_ok 300 _ _ _ _ _ _ (by omega) h
  unfold tree_Parse.f
  rw [if_pos (by omega), cut_list s hs k (by omega), h]
  unfold cutR
  by_cases he : e = 0
  · subst he
    obtain ⟨g1, g2⟩ := h3 rfl
    dsimp only
    rw [if_pos rfl]
    dsimp only
    rw [if_neg (show ¬ ((0 : Int) ≠ 0) from fun h => h rfl), if_neg (show ¬ ((0 : Int) ≠ 0) from fun h => h rfl), if_pos]
    refine ⟨by omega, ?_⟩
    rw [List.all_eq_true]
    intro t ht
    exact decide_eq_true (by have := (g1 t ht).size; omega)
  · dsimp only
    rw [if_neg he]
    dsimp only
    rw [if_pos he, if_pos he]
theorem parse_all (s : ByteArray) (hs : s.size ≤ 300) : ∃ K R, ParseR s R ∧ ∀ k, K ≤ k → tree_Parse.f k s = some R := by
  have hl := xt_len s
  cases hc : cutL s.size s.data.toList 0 with
  | mk ts x =>
    obtain ⟨p, e⟩ := x
    obtain ⟨h1, h2, h3⟩ := cutL_ok 300 _ _ _ _ _ _ (by omega) hc
    by_cases he : e = 0
    · subst he
      obtain ⟨g1, g2⟩ := h3 rfl
      have hp : ∀ k, 900 ≤ k → tree_Parse.f k s = tokR k ts (s.size : Int) := fun k hk => (parse_cut s hs k hk ts p 0 hc).trans (if_neg (by decide))
      have hB := (bad_lv g1 (en := (s.size : Int)) (by omega) 41).1 0 (Nat.zero_le _)
      have hF := (fit_lv ts (s.size : Int) 41).1
      have hG := (good_lv g1 (by omega) (s.size : Int) 41).1 0 (Nat.zero_le _)
      cases hf : (lv ts (s.size : Int) 41).form 0 with
      | mk r n =>
        cases r with
        | bad q c =>
          obtain ⟨b1, b2⟩ := hB _ _ _ hf
          exact ⟨900, _, .bad q c b1 b2, fun k hk => by rw [hp k hk]; unfold tokR; rw [hf]⟩
        | ok t =>
          have hle := hF.le (Nat.zero_le _) hf
          by_cases hn : n < ts.length
          · exact ⟨900, _, .bad (placeV ts (s.size : Int) n) 13 (place_ge g1 (by omega) n) (by decide), fun k hk => by rw [hp k hk]; unfold tokR; rw [hf]; dsimp only; rw [if_pos hn]⟩
          · obtain ⟨c, c1, c2, hfine⟩ := hG _ _ hf
            obtain ⟨K, d, hd, d1, d2⟩ := hfine.dep
            by_cases h16 : 16 < d
            · exact ⟨900 + K, _, .bad 0 14 (by decide) (by decide), fun k hk => by rw [hp k (by omega)]; unfold tokR; rw [hf]; dsimp only; rw [if_neg hn, depO_any (show K ≤ k by omega) hd]; dsimp only; rw [if_pos h16]⟩
            · have hnn : n = ts.length := by omega
              subst hnn
              have hp0 : p = 0 := cutL_p _ _ _ _ _ hc
              subst hp0
              exact ⟨900 + K, _, .ok t c K d (by omega) hfine hd (by omega) ts hc hf, fun k hk => by rw [hp k (by omega)]; unfold tokR; rw [hf]; dsimp only; rw [if_neg hn, depO_any (show K ≤ k by omega) hd]; dsimp only; rw [if_neg h16]⟩
    · exact ⟨900, _, .bad p e h1 he, fun k hk => (parse_cut s hs k hk ts p e hc).trans (if_pos he)⟩
theorem parse_paren (s s' : ByteArray) (hs : s'.size ≤ 300) (h' : s'.data.toList = 40 :: (s.data.toList ++ [41])) (t : TN) (c : Nat) (K : Nat) (d : Int) (hd : depO K t = some d) (h16 : d ≤ 16) (toks : List Tok) (hcut : cutL s.size s.data.toList 0 = (toks, 0, 0)) (hform : (lv toks (s.size : Int) 41).form 0 = (.ok t, toks.length)) :
    (∀ k, 900 + K ≤ k → tree_Parse.f k s' = some (nodeR t 0 0)) ∨ ∃ p, ∀ k, 900 ≤ k → tree_Parse.f k s' = some (badR p 14) := by
  have hl := xt_len s
  have hl' := xt_len s'
  rw [← hl] at hcut
  have hc := cut_paren _ _ _ hcut
  rw [← h', hl'] at hc
  have hP : Par toks (⟨4, 0, ⟨#[40]⟩, 0⟩ :: (toks.map shT ++ [⟨4, 0, ⟨#[41]⟩, ((1 + s.data.toList.length : Nat) : Int)⟩])) := by
    refine ⟨by simp, ⟨_, _, rfl⟩, fun n hn => ?_, ⟨0, ((1 + s.data.toList.length : Nat) : Int), ?_⟩⟩
    · rw [List.getElem?_cons_succ, List.getElem?_append_left (by rw [List.length_map]; exact hn), List.getElem?_map]
    · rw [List.getElem?_cons_succ, List.getElem?_append_right (by rw [List.length_map]; exact Nat.le_refl _), List.length_map, Nat.sub_self]; rfl
  generalize (⟨4, 0, ⟨#[40]⟩, 0⟩ :: (toks.map shT ++ [⟨4, 0, ⟨#[41]⟩, ((1 + s.data.toList.length : Nat) : Int)⟩]) : List LTok) = toks' at *
  have hp : ∀ k, 900 ≤ k → tree_Parse.f k s' = tokR k toks' (s'.size : Int) := fun k hk => (parse_cut s' hs k hk toks' 0 0 hc).trans (if_neg (by decide))
  rcases par_form hP (s.size : Int) (s'.size : Int) t hform with g | ⟨p, q, g⟩
  · left
    intro k hk
    rw [hp k (by omega)]; unfold tokR; rw [g]; dsimp only
    rw [if_neg (by omega), depO_any (show K ≤ k by omega) hd]; dsimp only; rw [if_neg (by omega)]
  · right
    exact ⟨p, fun k hk => by rw [hp k hk]; unfold tokR; rw [g]⟩
end Go.Proofs.YtpcnaoipenclnaaGreatDoor.P

namespace Go.Proofs.YtpcnaoipenclnaaGreatDoor.P
open Go.RowKit Go.Proofs.YtpcnaoipenclnaaGreatDoorW.PrintWords Go.Proofs.YtpcnaoipenclnaaGreatDoorW.PrintLast Go.Proofs.YtpcnaoipenclnaaGreatDoorW.PrintMore
open M (I64)
set_option linter.unusedVariables false
set_option maxRecDepth 100000
theorem good_wakes : pannierlaw05_wakes.f 1000 = some true := by decide +kernel
theorem wakes_any {k : Nat} (hk : 1000 ≤ k) : pannierlaw05_wakes.f k = some true := at_rounds pannierlaw05_wakes.mono hk good_wakes
theorem small_fine {t : TN} {c : Nat} (h : Fine c t) (hc : c ≤ 2000) : smallB t = true := by
  unfold smallB
  rw [h.few 2000 2001 (by omega) (by omega)]
theorem good_of {t : TN} {c : Nat} (h : Fine c t) (hc : c ≤ 2000) {K : Nat} {d : Int} (hd : depO K t = some d) (h16 : d ≤ 16) :
    ∃ K', ∀ k, K' ≤ k → tree_Good.f k t.f0 t.f1.f0 t.f1.f1 t.f1.f2 t.f2.f0.f0 t.f2.f0.f1 t.f2.f1.f0 t.f2.f1.f1 t.f3 t.f4 = some true ∧ tree_Depth.f k t.f0 t.f1.f0 t.f1.f1 t.f1.f2 t.f2.f0.f0 t.f2.f0.f1 t.f2.f1.f0 t.f2.f1.f1 t.f3 t.f4 = some d ∧
      tree_Same.f k t.f0 t.f1.f0 t.f1.f1 t.f1.f2 t.f2.f0.f0 t.f2.f0.f1 t.f2.f1.f0 t.f2.f1.f1 t.f3 t.f4 t.f0 t.f1.f0 t.f1.f1 t.f1.f2 t.f2.f0.f0 t.f2.f0.f1 t.f2.f1.f0 t.f2.f1.f1 t.f3 t.f4 = some true := by
  obtain ⟨Ka, ha⟩ := h.all
  obtain ⟨Ks, hs⟩ := h.same
  have hsm := small_fine h hc
  obtain ⟨f0, ⟨v0, v1, v2⟩, ⟨⟨r0, r1⟩, ⟨r2, r3⟩⟩, f3, f4⟩ := t
  refine ⟨K + Ka + Ks, fun k hk => ?_⟩
  have e1 : tree_small.f f0 v0 v1 v2 r0 r1 r2 r3 f3 f4 = some true := congrArg some hsm
  have e2 : tree_all.f k f0 v0 v1 v2 r0 r1 r2 r3 f3 f4 = some true := allF_any (show Ka ≤ k by omega) ha
  have e3 : tree_depth.f k f0 v0 v1 v2 r0 r1 r2 r3 f3 f4 = some d := depO_any (show K ≤ k by omega) hd
  have e4 : tree_same.f k f0 v0 v1 v2 r0 r1 r2 r3 f3 f4 f0 v0 v1 v2 r0 r1 r2 r3 f3 f4 = some true := sameF_any (show Ks ≤ k by omega) hs
  refine ⟨?_, ?_, ?_⟩
  · unfold tree_Good.f
    rw [e1, Option.bind_some, if_pos rfl, e2, Option.bind_some, if_pos rfl, e3, Option.bind_some, decide_eq_true h16]
  · unfold tree_Depth.f
    rw [e1, Option.bind_some, if_pos rfl, e3, Option.bind_some]
  · unfold tree_Same.f
    rw [e1, Option.bind_some, if_pos rfl, Option.bind_some, if_pos rfl, e4, Option.bind_some]
theorem TreeGood_pure (a0 : ByteArray) (h0 : a0.size ≤ 140737488351232) : ∃ k, pannierlaw05_TreeGood.f k a0 = some true := by
  by_cases hs : (a0.size : Int) > 290
  · refine ⟨1000, ?_⟩
    unfold pannierlaw05_TreeGood.f
    rw [if_pos hs, good_wakes, Option.bind_some]
  · have hs1 : ((⟨#[40]⟩ : ByteArray) ++ a0).size = a0.size + 1 := by rw [ByteArray.size_append, Nat.add_comm]; rfl
    have hs2 : (((⟨#[40]⟩ : ByteArray) ++ a0) ++ (⟨#[41]⟩ : ByteArray)).size = a0.size + 2 := by rw [ByteArray.size_append, hs1]; rfl
    have hl : (((⟨#[40]⟩ : ByteArray) ++ a0) ++ (⟨#[41]⟩ : ByteArray)).data.toList = 40 :: (a0.data.toList ++ [41]) := by
      rw [ByteArray.data_append, ByteArray.data_append, Array.toList_append, Array.toList_append]; rfl
    obtain ⟨K1, R1, hR1, h1⟩ := parse_all a0 (by omega)
    cases hR1 with
    | bad p c hp hc =>
      obtain ⟨K2, R2, -, h2⟩ := parse_all (((⟨#[40]⟩ : ByteArray) ++ a0) ++ (⟨#[41]⟩ : ByteArray)) (by omega)
      refine ⟨1000 + K1 + K2, ?_⟩
      unfold pannierlaw05_TreeGood.f
      rw [if_neg hs, h1 _ (by omega), Option.bind_some, if_pos (by omega), if_pos (by omega), h2 _ (by omega), Option.bind_some, wakes_any (by omega)]
      unfold badR
      dsimp only
      rw [if_neg hc, if_pos rfl, if_pos (show ((([] : List TN).length : Nat) : Int) = 0 from rfl), Option.bind_some]
      by_cases h14 : c = 14
      · rw [if_pos h14]
      · rw [if_neg h14]
        by_cases h3 : R2.2.2.2.2.2.2.2.2.2.2.2 = 0
        · rw [if_pos h3, if_pos hp]
        · rw [if_neg h3]
    | ok t c K d hc hf hd h16 toks hcut hform =>
      obtain ⟨K3, h3⟩ := good_of hf (by omega) hd h16
      rcases parse_paren a0 _ (by omega) hl t c K d hd h16 toks hcut hform with h2 | ⟨p, h2⟩
      · refine ⟨1000 + K1 + K + K3, ?_⟩
        obtain ⟨g1, g2, g3⟩ := h3 (1000 + K1 + K + K3) (by omega)
        unfold pannierlaw05_TreeGood.f
        rw [if_neg hs, h1 _ (by omega), Option.bind_some, if_pos (by omega), if_pos (by omega), h2 _ (by omega), Option.bind_some, wakes_any (by omega)]
        unfold nodeR
        dsimp only
        rw [if_pos rfl, if_neg (by decide), if_pos rfl, if_pos rfl, if_pos rfl, g1, Option.bind_some, if_pos rfl, g2, Option.bind_some, if_pos h16, g3, Option.bind_some, if_pos rfl, Option.bind_some]
      · refine ⟨1000 + K1 + K + K3, ?_⟩
        obtain ⟨g1, g2, g3⟩ := h3 (1000 + K1 + K + K3) (by omega)
        unfold pannierlaw05_TreeGood.f
        rw [if_neg hs, h1 _ (by omega), Option.bind_some, if_pos (by omega), if_pos (by omega), h2 _ (by omega), Option.bind_some, wakes_any (by omega)]
        unfold nodeR badR
        dsimp only
        rw [if_pos rfl, if_pos rfl, g1, Option.bind_some, if_pos rfl, Option.bind_some]
end Go.Proofs.YtpcnaoipenclnaaGreatDoor.P
