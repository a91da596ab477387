/- Contracts of the functions that the law reaches, each with the plain function that it comes to, and plain facts about these. -/
import Derived.WalkSmall
import Derived.Deep.RegionHeld3
import Derived.StillTailTactics
import Derived.Test.YtnomfbmebafolaaGreatDoorBK2
import Derived.Test.YtnomfbmebafolaaGreatDoorBK3
import Derived.Test.YtnomfbmebafolaaGreatDoorBK5
namespace Go.Proofs.YtnomfbmebafolaaGreatDoor.P
open Go.RowKit Go.Proofs.YtnomfbmebafolaaGreatDoorW.PrintWords Go.Proofs.YtnomfbmebafolaaGreatDoorW.PrintLast Go.Proofs.YtnomfbmebafolaaGreatDoorW.PrintMore
open M (I64)
set_option linter.unusedVariables false
set_option linter.unusedSimpArgs false
def tree_small.f (a0_0 a0_1 a0_2 : Int) (a0_3 : ByteArray) (a0_4 a0_5 a0_6 a0_7 : Int) (a0_8 : ByteArray) (l0_9 : List S31) : Option Bool := some (smallB ⟨a0_0, ⟨a0_1, a0_2, a0_3⟩, ⟨⟨a0_4, a0_5⟩, ⟨a0_6, a0_7⟩⟩, a0_8, l0_9⟩)
theorem tree_small.calls (a0_0 a0_1 a0_2 : Int) (a0_3 : ByteArray) (a0_4 a0_5 a0_6 a0_7 : Int) (a0_8 : ByteArray) (A0_9 : Option Addr) (c0_9 : Nat) (l0_9 : List S31) (r : Bool) (w : World) (hr0_9 : Kd.C k31 w A0_9 l0_9.length l0_9) (hc0_9 : l0_9.length ≤ c0_9) (h : tree_small.f a0_0 a0_1 a0_2 a0_3 a0_4 a0_5 a0_6 a0_7 a0_8 l0_9 = some r) :
    Calls Tryz.prog 24 #[.agg #[.int .i64 a0_0, .int .i64 a0_1, .int .i64 a0_2, .string a0_3, .int .i64 a0_4, .int .i64 a0_5, .int .i64 a0_6, .int .i64 a0_7, .string a0_8, .slice A0_9 l0_9.length c0_9]] w fun e w' => e = .returned (.bool r) ∧ Below w.heap.size w w' := by
  obtain rfl := Option.some.inj h
  exact small_calls ⟨a0_0, ⟨a0_1, a0_2, a0_3⟩, ⟨⟨a0_4, a0_5⟩, ⟨a0_6, a0_7⟩⟩, a0_8, l0_9⟩ A0_9 c0_9 w hr0_9 hc0_9
def tree_all.f (k : Nat) (a0_0 a0_1 a0_2 : Int) (a0_3 : ByteArray) (a0_4 a0_5 a0_6 a0_7 : Int) (a0_8 : ByteArray) (l0_9 : List S31) : Option Bool := allF k ⟨a0_0, ⟨a0_1, a0_2, a0_3⟩, ⟨⟨a0_4, a0_5⟩, ⟨a0_6, a0_7⟩⟩, a0_8, l0_9⟩
theorem tree_all.calls (k : Nat) (a0_0 a0_1 a0_2 : Int) (a0_3 : ByteArray) (a0_4 a0_5 a0_6 a0_7 : Int) (a0_8 : ByteArray) (A0_9 : Option Addr) (c0_9 : Nat) (l0_9 : List S31) (r : Bool) (w : World) (hr0_9 : Kd.C k31 w A0_9 l0_9.length l0_9) (hc0_9 : l0_9.length ≤ c0_9) (h : tree_all.f k a0_0 a0_1 a0_2 a0_3 a0_4 a0_5 a0_6 a0_7 a0_8 l0_9 = some r) :
    Calls Tryz.prog 25 #[.agg #[.int .i64 a0_0, .int .i64 a0_1, .int .i64 a0_2, .string a0_3, .int .i64 a0_4, .int .i64 a0_5, .int .i64 a0_6, .int .i64 a0_7, .string a0_8, .slice A0_9 l0_9.length c0_9]] w fun e w' => e = .returned (.bool r) ∧ Below w.heap.size w w' :=
  all_all k ⟨a0_0, ⟨a0_1, a0_2, a0_3⟩, ⟨⟨a0_4, a0_5⟩, ⟨a0_6, a0_7⟩⟩, a0_8, l0_9⟩ A0_9 c0_9 w r hr0_9 hc0_9 h
abbrev NodeR := Int × Int × Int × ByteArray × Int × Int × Int × Int × ByteArray × (List S31) × Int × Int
def nodeR (t : TN) (p c : Int) : NodeR := (t.f0, t.f1.f0, t.f1.f1, t.f1.f2, t.f2.f0.f0, t.f2.f0.f1, t.f2.f1.f0, t.f2.f1.f1, t.f3, t.f4, p, c)
def badR (p c : Int) : NodeR := (0, 0, 0, ⟨#[]⟩, 0, 0, 0, 0, ⟨#[]⟩, [], p, c)
def depO (k : Nat) (t : TN) : Option Int := tree_depth.f k t.f0 t.f1.f0 t.f1.f1 t.f1.f2 t.f2.f0.f0 t.f2.f0.f1 t.f2.f1.f0 t.f2.f1.f1 t.f3 t.f4
def tokR (k : Nat) (toks : List Tok) (en : Int) : Option NodeR :=
  match (lv toks en 41).form 0 with
  | (.bad p c, _) => some (badR p c)
  | (.ok t, n) => if n < toks.length then some (badR (placeV toks en n) 13) else match depO k t with | none => none | some d => if 16 < d then some (badR 0 14) else some (nodeR t 0 0)
def tree_Parse.f (k : Nat) (s : ByteArray) : Option NodeR :=
  if s.size ≤ 1000000 then (match lex_Cut.f k s with
  | none => none
  | some (toks, p, c) => if c ≠ 0 then some (badR p c) else if toks.length ≤ 1000000 ∧ (toks.all fun t => decide (t.f2.size ≤ 1000000)) = true then tokR k toks (s.size : Int) else none) else none
theorem tree_Parse.calls (k : Nat) (a0 : ByteArray) (r1 r2 r3 : Int) (r4 : ByteArray) (r5 r6 r7 r8 : Int) (r9 : ByteArray) (r10 : List S31) (r11 r12 : Int) (w : World) (hG : G4 w) (h : tree_Parse.f k a0 = some (r1, r2, r3, r4, r5, r6, r7, r8, r9, r10, r11, r12)) :
    Calls Tryz.prog 14 #[.string a0] w fun e w' => ∃ v9_ : Value, e = .returned (.tuple #[.agg #[.int .i64 r1, .int .i64 r2, .int .i64 r3, .string r4, .int .i64 r5, .int .i64 r6, .int .i64 r7, .int .i64 r8, .string r9, v9_], .int .i64 r11, .int .i64 r12]) ∧ Kd.V k31 31 w' w.heap.size (fun k_ => (w.heap.size ≤ k_)) v9_ r10 ∧ Below w.heap.size w w' := by
  have bad : ∀ p c, ParsedBad a0 p c → badR p c = (r1, r2, r3, r4, r5, r6, r7, r8, r9, r10, r11, r12) → Calls Tryz.prog 14 #[.string a0] w fun e w' => ∃ v9_ : Value, e = .returned (.tuple #[.agg #[.int .i64 r1, .int .i64 r2, .int .i64 r3, .string r4, .int .i64 r5, .int .i64 r6, .int .i64 r7, .int .i64 r8, .string r9, v9_], .int .i64 r11, .int .i64 r12]) ∧ Kd.V k31 31 w' w.heap.size (fun k_ => (w.heap.size ≤ k_)) v9_ r10 ∧ Below w.heap.size w w' := by
    intro p c hp e
    cases e
    refine (treeParse_bad a0 _ _ hp w hG).mono ?_
    rintro e w' ⟨rfl, hb⟩
    exact ⟨.slice none 0 0, rfl, Kd.V_nil _ _ _ _ _, hb⟩
  unfold tree_Parse.f at h
  by_cases hs : a0.size ≤ 1000000
  · rw [if_pos hs] at h
    cases hc : lex_Cut.f k a0 with
    | none => rw [hc] at h; cases h
    | some x =>
      obtain ⟨toks, p, c⟩ := x
      rw [hc] at h
      dsimp only at h
      by_cases h0 : c ≠ 0
      · rw [if_pos h0] at h
        exact bad p c (parsed_cut a0 hs toks k p c hc h0) (Option.some.inj h)
      · rw [if_neg h0] at h
        have hc0 : c = 0 := by omega
        subst hc0
        by_cases hl : toks.length ≤ 1000000 ∧ (toks.all fun t => decide (t.f2.size ≤ 1000000)) = true
        · rw [if_pos hl] at h
          have hsz : ∀ t ∈ toks, t.f2.size ≤ 1000000 := fun t ht => of_decide_eq_true (List.all_eq_true.1 hl.2 t ht)
          have hf := formula_does (en := (a0.size : Int)) hl.1 hsz
          unfold tokR at h
          cases e : (lv toks (a0.size : Int) 41).form 0 with
          | mk r n =>
            rw [e] at h hf
            cases r with
            | bad p' c' => exact bad p' c' (parsed_form a0 hs toks k p hc p' c' n hf) (Option.some.inj h)
            | ok t =>
              dsimp only at h
              by_cases hn : n < toks.length
              · rw [if_pos hn] at h
                exact bad _ _ (parsed_more a0 hs toks k p hc t n hf hn) (Option.some.inj h)
              · rw [if_neg hn] at h
                cases hd : depO k t with
                | none => rw [hd] at h; cases h
                | some d =>
                  rw [hd] at h
                  dsimp only at h
                  by_cases h16 : 16 < d
                  · rw [if_pos h16] at h
                    exact bad _ _ (parsed_deep a0 hs toks k p hc t n hf hn k d hd h16) (Option.some.inj h)
                  · rw [if_neg h16] at h
                    have hx := Option.some.inj h
                    have hok := parsed_ok a0 hs toks k p hc t n hf hn k d hd h16
                    cases hx
                    refine (treeParse_ok a0 t hok w hG).mono ?_
                    rintro e w' ⟨⟨v9, rfl, hv⟩, hb⟩
                    exact ⟨v9, rfl, hv, hb⟩
        · rw [if_neg hl] at h; cases h
  · rw [if_neg hs] at h; cases h
end Go.Proofs.YtnomfbmebafolaaGreatDoor.P

namespace Go.Proofs.YtnomfbmebafolaaGreatDoor.P
open Go.RowKit Go.Proofs.YtnomfbmebafolaaGreatDoorW.PrintWords Go.Proofs.YtnomfbmebafolaaGreatDoorW.PrintLast Go.Proofs.YtnomfbmebafolaaGreatDoorW.PrintMore
attribute [local go_sem] max2_int min2_int max_two min_two max_three min_three max_four min_four   -- for this text's walks alone
set_option linter.unusedVariables false
set_option linter.unusedSimpArgs false
def tree_Good.f (k : Nat) (a0_0 : Int) (a0_1 : Int) (a0_2 : Int) (a0_3 : ByteArray) (a0_4 : Int) (a0_5 : Int) (a0_6 : Int) (a0_7 : Int) (a0_8 : ByteArray) (l0_9 : List (S31)) : Option (Bool) := (tree_small.f a0_0 a0_1 a0_2 a0_3 a0_4 a0_5 a0_6 a0_7 a0_8 l0_9).bind fun t177 => (if t177 = true then ((tree_all.f k a0_0 a0_1 a0_2 a0_3 a0_4 a0_5 a0_6 a0_7 a0_8 l0_9).bind fun t178 => (if t178 = true then ((tree_depth.f k a0_0 a0_1 a0_2 a0_3 a0_4 a0_5 a0_6 a0_7 a0_8 l0_9).bind fun t179 => (some (decide (t179 ≤ 16)))) else (some false))) else (some false))
set_option maxHeartbeats 8000000 in
set_option maxRecDepth 100000 in
theorem tree_Good.calls (k : Nat) (a0_0 : Int) (a0_1 : Int) (a0_2 : Int) (a0_3 : ByteArray) (a0_4 : Int) (a0_5 : Int) (a0_6 : Int) (a0_7 : Int) (a0_8 : ByteArray) (A0_9 : Option Addr) (c0_9 : Nat) (l0_9 : List (S31)) (r : Bool) (w : World) (hr0_9 : Kd.C k31 w A0_9 l0_9.length l0_9) (hc0_9 : l0_9.length ≤ c0_9) (h : tree_Good.f k a0_0 a0_1 a0_2 a0_3 a0_4 a0_5 a0_6 a0_7 a0_8 l0_9 = some r) :
    Calls Tryz.prog 10 #[.agg #[.int .i64 a0_0, .int .i64 a0_1, .int .i64 a0_2, .string a0_3, .int .i64 a0_4, .int .i64 a0_5, .int .i64 a0_6, .int .i64 a0_7, .string a0_8, .slice A0_9 l0_9.length c0_9]] w fun e w' => e = .returned (.bool r) ∧ Below w.heap.size w w' := by
  have hu31 := Tryz.underlying31
  have HR0_9 := Aside0.mk hr0_9
  have HC0_9 := Aside0.mk hc0_9
  clear hr0_9 hc0_9
  have HB := Aside0.mk (Below.refl w.heap.size w)
  have H : ((tree_small.f a0_0 a0_1 a0_2 a0_3 a0_4 a0_5 a0_6 a0_7 a0_8 l0_9).bind fun t177 => (if t177 = true then ((tree_all.f k a0_0 a0_1 a0_2 a0_3 a0_4 a0_5 a0_6 a0_7 a0_8 l0_9).bind fun t178 => (if t178 = true then ((tree_depth.f k a0_0 a0_1 a0_2 a0_3 a0_4 a0_5 a0_6 a0_7 a0_8 l0_9).bind fun t179 => (some (decide (t179 ≤ 16)))) else (some false))) else (some false))) = some r := h
  clear h
  replace H := Option.bind_eq_some_iff.mp H
  obtain ⟨t177, A20, H⟩ := H
  replace H : (if t177 = true then ((tree_all.f k a0_0 a0_1 a0_2 a0_3 a0_4 a0_5 a0_6 a0_7 a0_8 l0_9).bind fun t178 => (if t178 = true then ((tree_depth.f k a0_0 a0_1 a0_2 a0_3 a0_4 a0_5 a0_6 a0_7 a0_8 l0_9).bind fun t179 => (some (decide (t179 ≤ 16)))) else (some false))) else (some false)) = some r := H
  have A2 := Aside0.mk A20
  clear A20
  by_cases c3 : t177 = true
  · subst c3
    have H1 : ((tree_all.f k a0_0 a0_1 a0_2 a0_3 a0_4 a0_5 a0_6 a0_7 a0_8 l0_9).bind fun t178 => (if t178 = true then ((tree_depth.f k a0_0 a0_1 a0_2 a0_3 a0_4 a0_5 a0_6 a0_7 a0_8 l0_9).bind fun t179 => (some (decide (t179 ≤ 16)))) else (some false))) = some r := by rw [if_pos rfl] at H; exact H
    clear H
    have H := H1
    clear H1
    replace H := Option.bind_eq_some_iff.mp H
    obtain ⟨t178, A40, H⟩ := H
    replace H : (if t178 = true then ((tree_depth.f k a0_0 a0_1 a0_2 a0_3 a0_4 a0_5 a0_6 a0_7 a0_8 l0_9).bind fun t179 => (some (decide (t179 ≤ 16)))) else (some false)) = some r := H
    have A4 := Aside0.mk A40
    clear A40
    by_cases c5 : t178 = true
    · subst c5
      have H1 : ((tree_depth.f k a0_0 a0_1 a0_2 a0_3 a0_4 a0_5 a0_6 a0_7 a0_8 l0_9).bind fun t179 => (some (decide (t179 ≤ 16)))) = some r := by rw [if_pos rfl] at H; exact H
      clear H
      have H := H1
      clear H1
      replace H := Option.bind_eq_some_iff.mp H
      obtain ⟨t179, A60, H⟩ := H
      replace H : (some (decide (t179 ≤ 16))) = some r := H
      have A6 := Aside0.mk A60
      clear A60
      obtain rfl := Option.some.inj H
      go_enter Tryz.func10, Tryz.ntmps10
      go_wp2_with (first | ((with_reducible refine gate_dst (N := 1) rfl ?_); refine box_event ?hg (N := 1) ?hd (cs := #[.int .i64 a0_0, .int .i64 a0_1, .int .i64 a0_2, .string a0_3, .int .i64 a0_4, .int .i64 a0_5, .int .i64 a0_6, .int .i64 a0_7, .string a0_8, .slice A0_9 l0_9.length c0_9]) (t := 31) ?hr ?_; (case hd => rfl); (case hg => rfl); (case hr => first | (go_simp; done) | (go_simp; rfl)); intro gb176 hg w7 hbox hb; have n0_ := Aside0.mk (below_step (by repeat first | with_reducible exact HB.out | apply zS | exact HB.out) hb); have n1_ := Aside0.mk (hbox); have n2_ := Aside0.mk ((by rw [hg]; exact (below_size (by repeat first | with_reducible exact HB.out | apply zS | exact HB.out)) : w.heap.size ≤ gb176)); have n3_ := n2_; clear HB; have HB := n0_; have BK176 := n1_; have GW176 := n2_; have GE176 := n3_; clear n0_ n1_ n2_ n3_; clear hb hbox hg; obtain ⟨hcz8_0, hcz8_1, hcz8_2, hcz8_3, hcz8_4, hcz8_5, hcz8_6, hcz8_7, hcz8_8, hcz8_9, hfz8_0, hfz8_1, hfz8_2, hfz8_3, hfz8_4, hfz8_5, hfz8_6, hfz8_7, hfz8_8, hfz8_9⟩ := zC10 BK176.out) | ((with_reducible refine gate_callee (f := 24) rfl ?_); refine goesL_ (some 4) rfl rfl Tryz.func24 (by kernel_rfl) rfl #[.agg #[.int .i64 a0_0, .int .i64 a0_1, .int .i64 a0_2, .string a0_3, .int .i64 a0_4, .int .i64 a0_5, .int .i64 a0_6, .int .i64 a0_7, .string a0_8, .slice A0_9 l0_9.length c0_9]] rfl (by (try simp only [List.map_toArray, List.map_cons, List.map_nil]); first | done | rfl | (simp only [List.length_drop, List.length_take]; rfl)) ?_; (with_reducible refine (tree_small.calls a0_0 a0_1 a0_2 a0_3 a0_4 a0_5 a0_6 a0_7 a0_8 _ _ l0_9 true _ ?side1 ?side2 A2.out).mono ?_); (case side1 => repeat (first | exact (Kd.C_below HR0_9.out HB.out) | (with_reducible refine Kd.C_alloc ?_ _) | (with_reducible refine Kd.C_drewN ?_ _) | (with_reducible refine Kd.C_drew ?_))); (case side2 => exact HC0_9.out); rintro e w9 ⟨rfl, hb⟩; refine ⟨_, rfl, ?_⟩; have n0_ := Aside0.mk (blk_below (g := gb176) (o := .cells #[.int .i64 a0_0, .int .i64 a0_1, .int .i64 a0_2, .string a0_3, .int .i64 a0_4, .int .i64 a0_5, .int .i64 a0_6, .int .i64 a0_7, .string a0_8, .slice A0_9 l0_9.length c0_9] 31 (0, 0)) (zB BK176.out) hb); have n1_ := Aside0.mk (below_step (by repeat first | with_reducible exact HB.out | apply zS | refine below_set ?_ GE176.out | exact HB.out) hb); clear BK176; clear HB; have BK176 := n0_; have HB := n1_; clear n0_ n1_; (try clear hb); (try clear hb2); (try clear hk); (try clear hi); obtain ⟨hcz10_0, hcz10_1, hcz10_2, hcz10_3, hcz10_4, hcz10_5, hcz10_6, hcz10_7, hcz10_8, hcz10_9, hfz10_0, hfz10_1, hfz10_2, hfz10_3, hfz10_4, hfz10_5, hfz10_6, hfz10_7, hfz10_8, hfz10_9⟩ := zC10 BK176.out) | (go_at_call 25; (with_reducible refine (tree_all.calls k a0_0 a0_1 a0_2 a0_3 a0_4 a0_5 a0_6 a0_7 a0_8 _ _ l0_9 true _ ?side1 ?side2 A4.out).mono ?_); (case side1 => repeat (first | exact (Kd.C_below HR0_9.out HB.out) | (with_reducible refine Kd.C_alloc ?_ _) | (with_reducible refine Kd.C_drewN ?_ _) | (with_reducible refine Kd.C_drew ?_))); (case side2 => exact HC0_9.out); rintro e w11 ⟨rfl, hb⟩; have n0_ := Aside0.mk (blk_below (g := gb176) (o := .cells #[.int .i64 a0_0, .int .i64 a0_1, .int .i64 a0_2, .string a0_3, .int .i64 a0_4, .int .i64 a0_5, .int .i64 a0_6, .int .i64 a0_7, .string a0_8, .slice A0_9 l0_9.length c0_9] 31 (0, 0)) (zB BK176.out) hb); have n1_ := Aside0.mk (below_step (by repeat first | with_reducible exact HB.out | apply zS | refine below_set ?_ GE176.out | exact HB.out) hb); clear BK176; clear HB; have BK176 := n0_; have HB := n1_; clear n0_ n1_; (try clear hb); (try clear hb2); (try clear hk); (try clear hi); obtain ⟨hcz12_0, hcz12_1, hcz12_2, hcz12_3, hcz12_4, hcz12_5, hcz12_6, hcz12_7, hcz12_8, hcz12_9, hfz12_0, hfz12_1, hfz12_2, hfz12_3, hfz12_4, hfz12_5, hfz12_6, hfz12_7, hfz12_8, hfz12_9⟩ := zC10 BK176.out) | (go_at_call 26; (with_reducible refine (tree_depth.calls k a0_0 a0_1 a0_2 a0_3 a0_4 a0_5 a0_6 a0_7 a0_8 _ _ l0_9 t179 _ ?side1 ?side2 A6.out).mono ?_); (case side1 => repeat (first | exact (Kd.C_below HR0_9.out HB.out) | (with_reducible refine Kd.C_alloc ?_ _) | (with_reducible refine Kd.C_drewN ?_ _) | (with_reducible refine Kd.C_drew ?_))); (case side2 => exact HC0_9.out); rintro e w13 ⟨rfl, hb⟩; have n0_ := Aside0.mk (blk_below (g := gb176) (o := .cells #[.int .i64 a0_0, .int .i64 a0_1, .int .i64 a0_2, .string a0_3, .int .i64 a0_4, .int .i64 a0_5, .int .i64 a0_6, .int .i64 a0_7, .string a0_8, .slice A0_9 l0_9.length c0_9] 31 (0, 0)) (zB BK176.out) hb); have n1_ := Aside0.mk (below_step (by repeat first | with_reducible exact HB.out | apply zS | refine below_set ?_ GE176.out | exact HB.out) hb); clear BK176; clear HB; have BK176 := n0_; have HB := n1_; clear n0_ n1_; (try clear hb); (try clear hb2); (try clear hk); (try clear hi)))
      go_ret
      exact ⟨by first | rfl | (simp [errW_none, errW_some] <;> rfl) | (simp [*, errW_none, errW_some] <;> rfl), by repeat first | with_reducible exact HB.out | apply zS | refine below_set ?_ GE176.out | exact HB.out⟩
    · replace c5 := Bool.eq_false_iff.mpr c5
      subst c5
      have H1 : (some false) = some r := by rw [if_neg (show ¬ (false = true) by decide)] at H; exact H
      clear H
      have H := H1
      clear H1
      obtain rfl := Option.some.inj H
      go_enter Tryz.func10, Tryz.ntmps10
      go_wp2_with (first | ((with_reducible refine gate_dst (N := 1) rfl ?_); refine box_event ?hg (N := 1) ?hd (cs := #[.int .i64 a0_0, .int .i64 a0_1, .int .i64 a0_2, .string a0_3, .int .i64 a0_4, .int .i64 a0_5, .int .i64 a0_6, .int .i64 a0_7, .string a0_8, .slice A0_9 l0_9.length c0_9]) (t := 31) ?hr ?_; (case hd => rfl); (case hg => rfl); (case hr => first | (go_simp; done) | (go_simp; rfl)); intro gb176 hg w14 hbox hb; have n0_ := Aside0.mk (below_step (by repeat first | with_reducible exact HB.out | apply zS | exact HB.out) hb); have n1_ := Aside0.mk (hbox); have n2_ := Aside0.mk ((by rw [hg]; exact (below_size (by repeat first | with_reducible exact HB.out | apply zS | exact HB.out)) : w.heap.size ≤ gb176)); have n3_ := n2_; clear HB; have HB := n0_; have BK176 := n1_; have GW176 := n2_; have GE176 := n3_; clear n0_ n1_ n2_ n3_; clear hb hbox hg; obtain ⟨hcz15_0, hcz15_1, hcz15_2, hcz15_3, hcz15_4, hcz15_5, hcz15_6, hcz15_7, hcz15_8, hcz15_9, hfz15_0, hfz15_1, hfz15_2, hfz15_3, hfz15_4, hfz15_5, hfz15_6, hfz15_7, hfz15_8, hfz15_9⟩ := zC10 BK176.out) | ((with_reducible refine gate_callee (f := 24) rfl ?_); refine goesL_ (some 4) rfl rfl Tryz.func24 (by kernel_rfl) rfl #[.agg #[.int .i64 a0_0, .int .i64 a0_1, .int .i64 a0_2, .string a0_3, .int .i64 a0_4, .int .i64 a0_5, .int .i64 a0_6, .int .i64 a0_7, .string a0_8, .slice A0_9 l0_9.length c0_9]] rfl (by (try simp only [List.map_toArray, List.map_cons, List.map_nil]); first | done | rfl | (simp only [List.length_drop, List.length_take]; rfl)) ?_; (with_reducible refine (tree_small.calls a0_0 a0_1 a0_2 a0_3 a0_4 a0_5 a0_6 a0_7 a0_8 _ _ l0_9 true _ ?side1 ?side2 A2.out).mono ?_); (case side1 => repeat (first | exact (Kd.C_below HR0_9.out HB.out) | (with_reducible refine Kd.C_alloc ?_ _) | (with_reducible refine Kd.C_drewN ?_ _) | (with_reducible refine Kd.C_drew ?_))); (case side2 => exact HC0_9.out); rintro e w16 ⟨rfl, hb⟩; refine ⟨_, rfl, ?_⟩; have n0_ := Aside0.mk (blk_below (g := gb176) (o := .cells #[.int .i64 a0_0, .int .i64 a0_1, .int .i64 a0_2, .string a0_3, .int .i64 a0_4, .int .i64 a0_5, .int .i64 a0_6, .int .i64 a0_7, .string a0_8, .slice A0_9 l0_9.length c0_9] 31 (0, 0)) (zB BK176.out) hb); have n1_ := Aside0.mk (below_step (by repeat first | with_reducible exact HB.out | apply zS | refine below_set ?_ GE176.out | exact HB.out) hb); clear BK176; clear HB; have BK176 := n0_; have HB := n1_; clear n0_ n1_; (try clear hb); (try clear hb2); (try clear hk); (try clear hi); obtain ⟨hcz17_0, hcz17_1, hcz17_2, hcz17_3, hcz17_4, hcz17_5, hcz17_6, hcz17_7, hcz17_8, hcz17_9, hfz17_0, hfz17_1, hfz17_2, hfz17_3, hfz17_4, hfz17_5, hfz17_6, hfz17_7, hfz17_8, hfz17_9⟩ := zC10 BK176.out) | (go_at_call 25; (with_reducible refine (tree_all.calls k a0_0 a0_1 a0_2 a0_3 a0_4 a0_5 a0_6 a0_7 a0_8 _ _ l0_9 false _ ?side1 ?side2 A4.out).mono ?_); (case side1 => repeat (first | exact (Kd.C_below HR0_9.out HB.out) | (with_reducible refine Kd.C_alloc ?_ _) | (with_reducible refine Kd.C_drewN ?_ _) | (with_reducible refine Kd.C_drew ?_))); (case side2 => exact HC0_9.out); rintro e w18 ⟨rfl, hb⟩; have n0_ := Aside0.mk (blk_below (g := gb176) (o := .cells #[.int .i64 a0_0, .int .i64 a0_1, .int .i64 a0_2, .string a0_3, .int .i64 a0_4, .int .i64 a0_5, .int .i64 a0_6, .int .i64 a0_7, .string a0_8, .slice A0_9 l0_9.length c0_9] 31 (0, 0)) (zB BK176.out) hb); have n1_ := Aside0.mk (below_step (by repeat first | with_reducible exact HB.out | apply zS | refine below_set ?_ GE176.out | exact HB.out) hb); clear BK176; clear HB; have BK176 := n0_; have HB := n1_; clear n0_ n1_; (try clear hb); (try clear hb2); (try clear hk); (try clear hi)))
      go_ret
      exact ⟨by first | rfl | (simp [errW_none, errW_some] <;> rfl) | (simp [*, errW_none, errW_some] <;> rfl), by repeat first | with_reducible exact HB.out | apply zS | refine below_set ?_ GE176.out | exact HB.out⟩
  · replace c3 := Bool.eq_false_iff.mpr c3
    subst c3
    have H1 : (some false) = some r := by rw [if_neg (show ¬ (false = true) by decide)] at H; exact H
    clear H
    have H := H1
    clear H1
    obtain rfl := Option.some.inj H
    go_enter Tryz.func10, Tryz.ntmps10
    go_wp2_with (first | ((with_reducible refine gate_dst (N := 1) rfl ?_); refine box_event ?hg (N := 1) ?hd (cs := #[.int .i64 a0_0, .int .i64 a0_1, .int .i64 a0_2, .string a0_3, .int .i64 a0_4, .int .i64 a0_5, .int .i64 a0_6, .int .i64 a0_7, .string a0_8, .slice A0_9 l0_9.length c0_9]) (t := 31) ?hr ?_; (case hd => rfl); (case hg => rfl); (case hr => first | (go_simp; done) | (go_simp; rfl)); intro gb176 hg w19 hbox hb; have n0_ := Aside0.mk (below_step (by repeat first | with_reducible exact HB.out | apply zS | exact HB.out) hb); have n1_ := Aside0.mk (hbox); have n2_ := Aside0.mk ((by rw [hg]; exact (below_size (by repeat first | with_reducible exact HB.out | apply zS | exact HB.out)) : w.heap.size ≤ gb176)); have n3_ := n2_; clear HB; have HB := n0_; have BK176 := n1_; have GW176 := n2_; have GE176 := n3_; clear n0_ n1_ n2_ n3_; clear hb hbox hg; obtain ⟨hcz20_0, hcz20_1, hcz20_2, hcz20_3, hcz20_4, hcz20_5, hcz20_6, hcz20_7, hcz20_8, hcz20_9, hfz20_0, hfz20_1, hfz20_2, hfz20_3, hfz20_4, hfz20_5, hfz20_6, hfz20_7, hfz20_8, hfz20_9⟩ := zC10 BK176.out) | ((with_reducible refine gate_callee (f := 24) rfl ?_); refine goesL_ (some 4) rfl rfl Tryz.func24 (by kernel_rfl) rfl #[.agg #[.int .i64 a0_0, .int .i64 a0_1, .int .i64 a0_2, .string a0_3, .int .i64 a0_4, .int .i64 a0_5, .int .i64 a0_6, .int .i64 a0_7, .string a0_8, .slice A0_9 l0_9.length c0_9]] rfl (by (try simp only [List.map_toArray, List.map_cons, List.map_nil]); first | done | rfl | (simp only [List.length_drop, List.length_take]; rfl)) ?_; (with_reducible refine (tree_small.calls a0_0 a0_1 a0_2 a0_3 a0_4 a0_5 a0_6 a0_7 a0_8 _ _ l0_9 false _ ?side1 ?side2 A2.out).mono ?_); (case side1 => repeat (first | exact (Kd.C_below HR0_9.out HB.out) | (with_reducible refine Kd.C_alloc ?_ _) | (with_reducible refine Kd.C_drewN ?_ _) | (with_reducible refine Kd.C_drew ?_))); (case side2 => exact HC0_9.out); rintro e w21 ⟨rfl, hb⟩; refine ⟨_, rfl, ?_⟩; have n0_ := Aside0.mk (blk_below (g := gb176) (o := .cells #[.int .i64 a0_0, .int .i64 a0_1, .int .i64 a0_2, .string a0_3, .int .i64 a0_4, .int .i64 a0_5, .int .i64 a0_6, .int .i64 a0_7, .string a0_8, .slice A0_9 l0_9.length c0_9] 31 (0, 0)) (zB BK176.out) hb); have n1_ := Aside0.mk (below_step (by repeat first | with_reducible exact HB.out | apply zS | refine below_set ?_ GE176.out | exact HB.out) hb); clear BK176; clear HB; have BK176 := n0_; have HB := n1_; clear n0_ n1_; (try clear hb); (try clear hb2); (try clear hk); (try clear hi)))
    go_ret
    exact ⟨by first | rfl | (simp [errW_none, errW_some] <;> rfl) | (simp [*, errW_none, errW_some] <;> rfl), by repeat first | with_reducible exact HB.out | apply zS | refine below_set ?_ GE176.out | exact HB.out⟩
end Go.Proofs.YtnomfbmebafolaaGreatDoor.P

namespace Go.Proofs.YtnomfbmebafolaaGreatDoor.P
open Go.RowKit Go.Proofs.YtnomfbmebafolaaGreatDoorW.PrintWords Go.Proofs.YtnomfbmebafolaaGreatDoorW.PrintLast Go.Proofs.YtnomfbmebafolaaGreatDoorW.PrintMore
open M (I64)
set_option linter.unusedVariables false
set_option linter.unusedSimpArgs false
theorem least_text (k : Nat) (t : TN) (A : Option Addr) (c : Nat) (W0 : World) (b : Nat) (row : Int) (out : List UInt8) (hV : vN (fun j => j < W0.heap.size) W0 (.slice A t.f4.length c) t.f4)
    (ih : ∀ out, textT k t = some out → Writes 11 #[ptr b, ndV t (.slice A t.f4.length c)] W0 b out)
    (h : leastL (textT k) k t row = some out) : Writes 30 #[ptr b, ndV t (.slice A t.f4.length c), .int .i64 row] W0 b out := by
  unfold leastL at h
  cases hr : rowO k t with
  | none => rw [hr] at h; cases h
  | some r =>
    rw [hr] at h
    dsimp only at h
    cases ht : textT k t with
    | none => rw [ht] at h; cases h
    | some l =>
      rw [ht] at h
      dsimp only at h
      by_cases hle : row ≤ r
      · rw [if_pos hle] at h
        obtain rfl := Option.some.inj h
        exact least_plain t A c W0 b k row r l hV hr (ih l ht) hle
      · rw [if_neg hle] at h
        obtain rfl := Option.some.inj h
        exact least_paren t A c W0 b k row r l hV hr (ih l ht) hle
theorem node_text : ∀ (k : Nat) (t : TN) (A : Option Addr) (c : Nat) (W0 : World) (b : Nat) (out : List UInt8), textT k t = some out → vN (fun j => j < W0.heap.size) W0 (.slice A t.f4.length c) t.f4 → G1 W0 →
    Writes 11 #[ptr b, ndV t (.slice A t.f4.length c)] W0 b out := by
  intro k
  induction k with
  | zero => intro t A c W0 b out h; cases h
  | succ k ih =>
    intro t A c W0 b out h hV hG
    rw [textT] at h
    by_cases h1 : t.f0 = 1
    · rw [if_pos h1] at h
      obtain ⟨s, hs, rfl⟩ := Option.map_eq_some_iff.1 h
      exact node_const t _ W0 b s h1 hs hG
    rw [if_neg h1] at h
    by_cases h2 : t.f0 = 2
    · rw [if_pos h2] at h
      obtain ⟨s, hs, rfl⟩ := Option.map_eq_some_iff.1 h
      exact node_cell t A c W0 b s h2 hs hG
    rw [if_neg h2] at h
    by_cases h4 : t.f0 = 4
    · rw [if_pos h4] at h
      cases e : t.f4 with
      | nil => rw [e] at h; cases h
      | cons x l =>
        rw [e] at h
        cases l with
        | cons y l => cases h
        | nil =>
          dsimp only at h
          obtain ⟨o, ho, rfl⟩ := Option.map_eq_some_iff.1 h
          rw [e] at hV
          obtain ⟨ad, rfl⟩ := el_some hV
          refine node_neg t ad c W0 b x o h4 e (by rw [e]; exact hV) (fun A9 c9 hv => least_text k x A9 c9 W0 b 5 o hv (fun out hx => ih x A9 c9 W0 b out hx hv hG) ho)
    rw [if_neg h4] at h
    by_cases h5 : t.f0 = 5
    · rw [if_pos h5] at h
      cases e : t.f4 with
      | nil => rw [e] at h; cases h
      | cons x l =>
        rw [e] at h
        cases l with
        | nil => cases h
        | cons y l =>
          cases l with
          | cons z l => cases h
          | nil =>
            dsimp only at h
            cases hs : print_sides.f k t.f3 with
            | none => rw [hs] at h; cases h
            | some r =>
              obtain ⟨r1, r2⟩ := r
              rw [hs] at h
              dsimp only at h
              cases hp : leastL (textT k) k x r1 with
              | none => rw [hp] at h; cases h
              | some p =>
                rw [hp] at h
                dsimp only at h
                cases hq : leastL (textT k) k y r2 with
                | none => rw [hq] at h; cases h
                | some q =>
                  rw [hq] at h
                  obtain rfl := Option.some.inj h
                  rw [e] at hV
                  obtain ⟨ad, rfl⟩ := el_some hV
                  exact node_binary t ad c W0 b k x y r1 r2 p q h5 e hs (by rw [e]; exact hV) (fun A9 c9 hv => least_text k x A9 c9 W0 b r1 p hv (fun out hx => ih x A9 c9 W0 b out hx hv hG) hp) (fun A9 c9 hv => least_text k y A9 c9 W0 b r2 q hv (fun out hx => ih y A9 c9 W0 b out hx hv hG) hq)
    rw [if_neg h5] at h
    cases h
def goodO (k : Nat) (t : TN) : Option Bool := tree_Good.f k t.f0 t.f1.f0 t.f1.f1 t.f1.f2 t.f2.f0.f0 t.f2.f0.f1 t.f2.f1.f0 t.f2.f1.f1 t.f3 t.f4
def textO (k : Nat) (t : TN) : Option (ByteArray × Int) :=
  match goodO k t with
  | none => none
  | some false => some (⟨#[]⟩, 11)
  | some true => match textT k t with
    | none => none
    | some l => if l = [] then none else if l.length ≤ 100000000 then (if 300 < l.length then some (⟨#[]⟩, 2) else some (⟨l.toArray⟩, 0)) else none
abbrev TextC (k : Nat) (t : TN) (A : Option Addr) (c : Nat) (W : World) (s : ByteArray) (e0 : Int) : Prop := Calls Tryz.prog 5 #[ndV t (.slice A t.f4.length c)] W fun e W' => e = .returned (.tuple #[.string s, .int .i64 e0]) ∧ Below W.heap.size W W'
set_option maxHeartbeats 4000000 in
set_option maxRecDepth 100000 in
theorem text_bad (k : Nat) (t : TN) (A : Option Addr) (c : Nat) (W : World) (hC : Kd.C k31 W A t.f4.length t.f4) (hc : t.f4.length ≤ c) (hg : goodO k t = some false) : TextC k t A c W ⟨#[]⟩ 11 := by
  have hu := Tryz.underlying31
  have HC := Lib.hid hC
  have HL := Lib.hid hc
  have HGd := Lib.hid (show tree_Good.f k t.f0 t.f1.f0 t.f1.f1 t.f1.f2 t.f2.f0.f0 t.f2.f0.f1 t.f2.f1.f0 t.f2.f1.f1 t.f3 t.f4 = some false from hg)
  clear hC hc hg
  go_enter Tryz.func5, Tryz.ntmps5
  go_wp2_with (go_at_call 10; (with_reducible refine (tree_Good.calls k _ _ _ _ _ _ _ _ _ A c _ false _ ?sc HL.out HGd.out).mono ?_); (case sc => exact Kd.C_alloc HC.out _); rintro e w1 ⟨rfl, hb⟩; have HB1 := Lib.hid (Below.of_alloc hb); clear hb)
  go_ret2
  exact ⟨rfl, HB1.out⟩
set_option maxHeartbeats 4000000 in
set_option maxRecDepth 100000 in
theorem text_walk (k : Nat) (t : TN) (A : Option Addr) (c : Nat) (W : World) (l : List UInt8) (n : Int) (q : Bool) (hC : Kd.C k31 W A t.f4.length t.f4) (hc : t.f4.length ≤ c) (hg : goodO k t = some true) (hG : G1 W)
    (ht : textT k t = some l) (h0 : l ≠ []) (hn : l.length ≤ 100000000) (hnn : (l.length : Int) = n) (hq : decide (300 < n) = q) : TextC k t A c W (if q then ⟨#[]⟩ else ⟨l.toArray⟩) (if q then 2 else 0) := by
  have hu := Tryz.underlying31
  have hu2 := Tryz.underlying50
  have HC := Lib.hid hC
  have HL := Lib.hid hc
  have HG := Lib.hid hG
  have HT := Lib.hid ht
  have HN := Lib.hid (show ([] : List UInt8).length + l.length ≤ 100000000 by simpa using hn)
  have HN2 := Lib.hid (show (Lib.byteCells l).length ≤ 140737488355328 by rw [Lib.byteCells_length]; omega)
  have HN3 := Lib.hid (show ((Lib.byteCells l).length : Int) = n by rw [Lib.byteCells_length]; exact hnn)
  have H0 := Lib.hid h0
  have BX0 := Lib.hid (blk_new W (ndO t (.slice A t.f4.length c)))
  have HGd := Lib.hid (show tree_Good.f k t.f0 t.f1.f0 t.f1.f1 t.f1.f2 t.f2.f0.f0 t.f2.f0.f1 t.f2.f1.f0 t.f2.f1.f1 t.f3 t.f4 = some true from hg)
  have hLen : ∀ (B b : Nat) (w : World), IsW B b (Lib.byteCells l) w → Calls Tryz.prog 12 #[.pointer (some ⟨b, 0, none⟩)] w fun e w' => e = .returned (.int .i64 n) ∧ w' = w := by
    intro B b w h
    have := w_len B b _ w h HN2.out
    rw [HN3.out] at this
    exact this
  have HLen := Lib.hid hLen
  clear hC hc hg hG ht h0 hn hnn hLen
  go_enter Tryz.func5, Tryz.ntmps5
  cases q
  all_goals go_wp2_with (first | (go_at_call 10; (with_reducible refine (tree_Good.calls k _ _ _ _ _ _ _ _ _ A c _ true _ ?sc HL.out HGd.out).mono ?_); (case sc => exact Kd.C_alloc HC.out _); rintro e w1 ⟨rfl, hb⟩; have HB1 := Lib.hid (Below.of_alloc hb); have HC1 := Lib.hid (Kd.C_below HC.out HB1.out); have BX1 := Lib.hid (blk_below BX0.out hb); clear hb; have hlt1 := blk_lt BX1.out; obtain ⟨⟨c0, c1, c2, c3, c4, c5, c6, c7, c8, c9⟩, z0, z1, z2, z3, z4, z5, z6, z7, z8, z9⟩ := z10 BX1.out) | (go_at_call 11; (with_reducible refine ((node_text k t A c w1 w1.heap.size l HT.out (Kd.V_mk HL.out (Kd.C_F nd_heap HC1.out)) (gl_1_1 HB1.out HG.out)).go (w1.alloc (.cells #[.pointer none, .slice none 0 0] 50)) [] (Lib.fresh_isBuilder _ _ w1) (below_alloc (Below.refl _ _) _) HN.out).mono ?_); rintro e w2 ⟨rfl, hI, hB, -⟩; have HI2 := Lib.hid (show IsW w1.heap.size w1.heap.size (Lib.byteCells l) w2 from hI); have HB2 := Lib.hid hB; clear hI hB) | (go_at_call 12; (with_reducible refine (HLen.out w1.heap.size w1.heap.size w2 HI2.out).mono ?_); rintro e w3 ⟨rfl, rfl⟩) | (go_at_call 13; (with_reducible refine (w_text w1.heap.size w1.heap.size l _ HI2.out H0.out).mono ?_); rintro e w4 ⟨rfl, hb⟩; have HB4 := Lib.hid hb; clear hb))
  · go_ret2
    exact ⟨rfl, below_step HB1.out (HB2.out.trans HB4.out)⟩
  · go_ret2
    exact ⟨rfl, below_step HB1.out HB2.out⟩
end Go.Proofs.YtnomfbmebafolaaGreatDoor.P

namespace Go.Proofs.YtnomfbmebafolaaGreatDoor.P
open Go.RowKit Go.Proofs.YtnomfbmebafolaaGreatDoorW.PrintWords Go.Proofs.YtnomfbmebafolaaGreatDoorW.PrintLast Go.Proofs.YtnomfbmebafolaaGreatDoorW.PrintMore
open M (I64)
set_option linter.unusedVariables false
set_option linter.unusedSimpArgs false
def print_Text.f (k : Nat) (a0_0 a0_1 a0_2 : Int) (a0_3 : ByteArray) (a0_4 a0_5 a0_6 a0_7 : Int) (a0_8 : ByteArray) (l0_9 : List S31) : Option (ByteArray × Int) := textO k ⟨a0_0, ⟨a0_1, a0_2, a0_3⟩, ⟨⟨a0_4, a0_5⟩, ⟨a0_6, a0_7⟩⟩, a0_8, l0_9⟩
theorem text_calls (k : Nat) (t : TN) (A : Option Addr) (c : Nat) (r1 : ByteArray) (r2 : Int) (W : World) (hC : Kd.C k31 W A t.f4.length t.f4) (hc : t.f4.length ≤ c) (hG : G1 W) (h : textO k t = some (r1, r2)) : TextC k t A c W r1 r2 := by
  unfold textO at h
  cases hg : goodO k t with
  | none => rw [hg] at h; cases h
  | some g =>
    rw [hg] at h
    cases g with
    | false =>
      cases h
      exact text_bad k t A c W hC hc hg
    | true =>
      dsimp only at h
      cases ht : textT k t with
      | none => rw [ht] at h; cases h
      | some l =>
        rw [ht] at h
        dsimp only at h
        by_cases h0 : l = []
        · rw [if_pos h0] at h; cases h
        rw [if_neg h0] at h
        by_cases hn : l.length ≤ 100000000
        · rw [if_pos hn] at h
          have hw := text_walk k t A c W l l.length (decide (300 < (l.length : Int))) hC hc hg hG ht h0 hn rfl rfl
          by_cases h3 : 300 < l.length
          · rw [if_pos h3] at h
            cases h
            have e : decide (300 < (l.length : Int)) = true := decide_eq_true (by omega)
            rw [e] at hw
            exact hw
          · rw [if_neg h3] at h
            cases h
            have e : decide (300 < (l.length : Int)) = false := decide_eq_false (by omega)
            rw [e] at hw
            exact hw
        · rw [if_neg hn] at h; cases h
theorem print_Text.calls (k : Nat) (a0_0 a0_1 a0_2 : Int) (a0_3 : ByteArray) (a0_4 a0_5 a0_6 a0_7 : Int) (a0_8 : ByteArray) (A0_9 : Option Addr) (c0_9 : Nat) (l0_9 : List S31) (r1 : ByteArray) (r2 : Int) (w : World) (hr0_9 : Kd.C k31 w A0_9 l0_9.length l0_9) (hc0_9 : l0_9.length ≤ c0_9) (hG : G1 w) (h : print_Text.f k a0_0 a0_1 a0_2 a0_3 a0_4 a0_5 a0_6 a0_7 a0_8 l0_9 = some (r1, r2)) :
    Calls Tryz.prog 5 #[.agg #[.int .i64 a0_0, .int .i64 a0_1, .int .i64 a0_2, .string a0_3, .int .i64 a0_4, .int .i64 a0_5, .int .i64 a0_6, .int .i64 a0_7, .string a0_8, .slice A0_9 l0_9.length c0_9]] w fun e w' => e = .returned (.tuple #[.string r1, .int .i64 r2]) ∧ Below w.heap.size w w' :=
  text_calls k ⟨a0_0, ⟨a0_1, a0_2, a0_3⟩, ⟨⟨a0_4, a0_5⟩, ⟨a0_6, a0_7⟩⟩, a0_8, l0_9⟩ A0_9 c0_9 r1 r2 w hr0_9 hc0_9 hG h
end Go.Proofs.YtnomfbmebafolaaGreatDoor.P

namespace Go.Proofs.YtnomfbmebafolaaGreatDoor.P
open Go.RowKit Go.Proofs.YtnomfbmebafolaaGreatDoorW.PrintWords Go.Proofs.YtnomfbmebafolaaGreatDoorW.PrintLast Go.Proofs.YtnomfbmebafolaaGreatDoorW.PrintMore
attribute [local go_sem] max2_int min2_int max_two min_two max_three min_three max_four min_four   -- for this text's walks alone
set_option linter.unusedVariables false
set_option linter.unusedSimpArgs false
def pannierlaw06_wakes.f (k : Nat)  : Option (Bool) := (tree_Parse.f k (⟨#[40, 32, 49, 43, 50, 32, 41, 42, 45, 40, 51, 94, 97, 49, 41]⟩ : ByteArray)).bind fun bt221 => ((print_Text.f k bt221.1 bt221.2.1 bt221.2.2.1 bt221.2.2.2.1 bt221.2.2.2.2.1 bt221.2.2.2.2.2.1 bt221.2.2.2.2.2.2.1 bt221.2.2.2.2.2.2.2.1 bt221.2.2.2.2.2.2.2.2.1 bt221.2.2.2.2.2.2.2.2.2.1).bind fun bt236 => (if bt221.2.2.2.2.2.2.2.2.2.2.2 = 0 then (if bt236.2 = 0 then (if bt236.1.toList = ([40, 49, 43, 50, 41, 42, 45, 40, 51, 94, 65, 49, 41] : List UInt8) then ((print_Row.f k bt221.1 bt221.2.1 bt221.2.2.1 bt221.2.2.2.1 bt221.2.2.2.2.1 bt221.2.2.2.2.2.1 bt221.2.2.2.2.2.2.1 bt221.2.2.2.2.2.2.2.1 bt221.2.2.2.2.2.2.2.2.1 bt221.2.2.2.2.2.2.2.2.2.1).bind fun t238 => (some (t238 == 3))) else (none)) else (none)) else (none)))
set_option maxHeartbeats 8000000 in
set_option maxRecDepth 100000 in
theorem pannierlaw06_wakes.calls (k : Nat)  (r : Bool) (w : World) (hG : G4 w) (h : pannierlaw06_wakes.f k  = some r) :
    Calls Tryz.prog 6 #[] w fun e w' => e = .returned (.bool r) ∧ Below w.heap.size w w' := by
  have hu31 := Tryz.underlying31
  have HB := Aside0.mk (Below.refl w.heap.size w)
  have H : ((tree_Parse.f k (⟨#[40, 32, 49, 43, 50, 32, 41, 42, 45, 40, 51, 94, 97, 49, 41]⟩ : ByteArray)).bind fun bt221 => ((print_Text.f k bt221.1 bt221.2.1 bt221.2.2.1 bt221.2.2.2.1 bt221.2.2.2.2.1 bt221.2.2.2.2.2.1 bt221.2.2.2.2.2.2.1 bt221.2.2.2.2.2.2.2.1 bt221.2.2.2.2.2.2.2.2.1 bt221.2.2.2.2.2.2.2.2.2.1).bind fun bt236 => (if bt221.2.2.2.2.2.2.2.2.2.2.2 = 0 then (if bt236.2 = 0 then (if bt236.1.toList = ([40, 49, 43, 50, 41, 42, 45, 40, 51, 94, 65, 49, 41] : List UInt8) then ((print_Row.f k bt221.1 bt221.2.1 bt221.2.2.1 bt221.2.2.2.1 bt221.2.2.2.2.1 bt221.2.2.2.2.2.1 bt221.2.2.2.2.2.2.1 bt221.2.2.2.2.2.2.2.1 bt221.2.2.2.2.2.2.2.2.1 bt221.2.2.2.2.2.2.2.2.2.1).bind fun t238 => (some (t238 == 3))) else (none)) else (none)) else (none)))) = some r := h
  clear h
  replace H := Option.bind_eq_some_iff.mp H
  obtain ⟨⟨t221, t222, t223, t224, t225, t226, t227, t228, t229, t230, t233, t234⟩, A10, H⟩ := H
  replace H : ((print_Text.f k t221 t222 t223 t224 t225 t226 t227 t228 t229 t230).bind fun bt236 => (if t234 = 0 then (if bt236.2 = 0 then (if bt236.1.toList = ([40, 49, 43, 50, 41, 42, 45, 40, 51, 94, 65, 49, 41] : List UInt8) then ((print_Row.f k t221 t222 t223 t224 t225 t226 t227 t228 t229 t230).bind fun t238 => (some (t238 == 3))) else (none)) else (none)) else (none))) = some r := H
  have A1 := Aside0.mk A10
  clear A10
  replace H := Option.bind_eq_some_iff.mp H
  obtain ⟨⟨t236, t237⟩, A20, H⟩ := H
  replace H : (if t234 = 0 then (if t237 = 0 then (if t236.toList = ([40, 49, 43, 50, 41, 42, 45, 40, 51, 94, 65, 49, 41] : List UInt8) then ((print_Row.f k t221 t222 t223 t224 t225 t226 t227 t228 t229 t230).bind fun t238 => (some (t238 == 3))) else (none)) else (none)) else (none)) = some r := H
  have A2 := Aside0.mk A20
  clear A20
  by_cases c3 : t234 = 0
  · rw [if_pos c3] at H
    have c3b0 : (t234 == 0) = true := beq_iff_eq.mpr c3
    have c3b1 : (t234 != 0) = false := bne_eq_false_iff_eq.mpr c3
    clear c3
    by_cases c4 : t237 = 0
    · rw [if_pos c4] at H
      have c4b0 : (t237 == 0) = true := beq_iff_eq.mpr c4
      have c4b1 : (t237 != 0) = false := bne_eq_false_iff_eq.mpr c4
      clear c4
      by_cases c5 : t236.toList = ([40, 49, 43, 50, 41, 42, 45, 40, 51, 94, 65, 49, 41] : List UInt8)
      · rw [if_pos c5] at H
        have c5b0 : (t236.toList == ([40, 49, 43, 50, 41, 42, 45, 40, 51, 94, 65, 49, 41] : List UInt8)) = true := beq_iff_eq.mpr c5
        have c5b1 : (t236.toList != ([40, 49, 43, 50, 41, 42, 45, 40, 51, 94, 65, 49, 41] : List UInt8)) = false := bne_eq_false_iff_eq.mpr c5
        clear c5
        replace H := Option.bind_eq_some_iff.mp H
        obtain ⟨t238, A60, H⟩ := H
        replace H : (some (t238 == 3)) = some r := H
        have A6 := Aside0.mk A60
        clear A60
        obtain rfl := Option.some.inj H
        go_enter Tryz.func6, Tryz.ntmps6
        go_wp2_with (first | ((with_reducible refine gate_callee (f := 14) rfl ?_); refine goesL_ (some 7) rfl rfl Tryz.func14 (by kernel_rfl) rfl #[.string (⟨#[40, 32, 49, 43, 50, 32, 41, 42, 45, 40, 51, 94, 97, 49, 41]⟩ : ByteArray)] rfl (by (try simp only [List.map_toArray, List.map_cons, List.map_nil]); first | done | rfl | (simp only [List.length_drop, List.length_take]; rfl)) ?_; (with_reducible refine (tree_Parse.calls k (⟨#[40, 32, 49, 43, 50, 32, 41, 42, 45, 40, 51, 94, 97, 49, 41]⟩ : ByteArray) t221 t222 t223 t224 t225 t226 t227 t228 t229 t230 t233 t234 _ ?side1 A1.out).mono ?_); (case side1 => exact gl_4_4 (by repeat first | with_reducible exact HB.out | apply zS | exact HB.out) hG); rintro e w7 ⟨v231, rfl, ho0, hb⟩; refine ⟨_, rfl, ?_⟩; have n0_ := Aside0.mk (Kd.V_lower (Kd.V_mono (ok' := fun k_ => True) ho0 (fun k_ hk_ => trivial)) (below_size (by repeat first | with_reducible exact HB.out | apply zS | exact HB.out))); have n1_ := Aside0.mk (below_step (by repeat first | with_reducible exact HB.out | apply zS | exact HB.out) hb); clear HB; have HO232 := n0_; have HB := n1_; clear n0_ n1_; (try clear hb); (try clear hb2); (try clear hk); (try clear hi); (try clear ho0)) | ((with_reducible refine gate_dst (N := 1) rfl ?_); refine box_event ?hg (N := 1) ?hd (cs := #[.int .i64 0, .int .i64 0, .int .i64 0, .string (⟨#[]⟩ : ByteArray), .int .i64 0, .int .i64 0, .int .i64 0, .int .i64 0, .string (⟨#[]⟩ : ByteArray), .slice none 0 0]) (t := 31) ?hr ?_; (case hd => rfl); (case hg => rfl); (case hr => first | (go_simp; done) | (go_simp; rfl)); intro gb235 hg w8 hbox hb; have n0_ := Aside0.mk (Kd.V_below (Kd.V_elderB (by (with_reducible repeat (first | apply Kd.V_alloc | apply Kd.V_drewN | apply Kd.V_drew)); exact HO232.out) gb235 (Nat.le_of_eq hg.symm)) hb); have n1_ := Aside0.mk (below_step (by repeat first | with_reducible exact HB.out | apply zS | exact HB.out) hb); have n2_ := Aside0.mk (hbox); have n3_ := Aside0.mk ((by rw [hg]; exact (below_size (by repeat first | with_reducible exact HB.out | apply zS | exact HB.out)) : w.heap.size ≤ gb235)); have n4_ := n3_; clear HO232; clear HB; have HO232 := n0_; have HB := n1_; have BK235 := n2_; have GW235 := n3_; have GE235 := n4_; clear n0_ n1_ n2_ n3_ n4_; clear hb hbox hg; obtain ⟨hcz9_0, hcz9_1, hcz9_2, hcz9_3, hcz9_4, hcz9_5, hcz9_6, hcz9_7, hcz9_8, hcz9_9, hfz9_0, hfz9_1, hfz9_2, hfz9_3, hfz9_4, hfz9_5, hfz9_6, hfz9_7, hfz9_8, hfz9_9⟩ := zC10 BK235.out; obtain ⟨Ao10, co10, eo10⟩ := Kd.V_slice HO232.out; subst eo10) | ((with_reducible refine gate_callee (f := 5) rfl ?_); refine goesL_ (some 13) rfl rfl Tryz.func5 (by kernel_rfl) rfl #[.agg #[.int .i64 t221, .int .i64 t222, .int .i64 t223, .string t224, .int .i64 t225, .int .i64 t226, .int .i64 t227, .int .i64 t228, .string t229, .slice Ao10 t230.length co10]] rfl (by (try simp only [List.map_toArray, List.map_cons, List.map_nil]); first | done | rfl | (simp only [List.length_drop, List.length_take]; rfl)) ?_; (with_reducible refine (print_Text.calls k t221 t222 t223 t224 t225 t226 t227 t228 t229 _ _ t230 t236 t237 _ ?side1 ?side2 ?side3 A2.out).mono ?_); (case side1 => refine (Kd.V_reads' (e := 31) (base := w.heap.size) (ok := fun k_ => (True ∧ k_ ≠ gb235)) (n := t230.length) (c := co10) ?_).2.2; exact (by (with_reducible repeat (first | apply Kd.V_alloc | apply Kd.V_drewN | apply Kd.V_drew)); exact (Kd.V_mono (Kd.V_far (p := ⟨gb235, 9, none⟩) (Kd.V_far (p := ⟨gb235, 8, none⟩) (Kd.V_far (p := ⟨gb235, 7, none⟩) (Kd.V_far (p := ⟨gb235, 6, none⟩) (Kd.V_far (p := ⟨gb235, 5, none⟩) (Kd.V_far (p := ⟨gb235, 4, none⟩) (Kd.V_far (p := ⟨gb235, 3, none⟩) (Kd.V_far (p := ⟨gb235, 2, none⟩) (Kd.V_far (p := ⟨gb235, 1, none⟩) (Kd.V_far (p := ⟨gb235, 0, none⟩) (Kd.V_mono HO232.out (fun k_ hk => (⟨hk, hk.2⟩ : _ ∧ k_ ≠ gb235))) (fun _ hk => hk.2) (.int .i64 t221)) (fun _ hk => hk.2) (.int .i64 t222)) (fun _ hk => hk.2) (.int .i64 t223)) (fun _ hk => hk.2) (.string t224)) (fun _ hk => hk.2) (.int .i64 t225)) (fun _ hk => hk.2) (.int .i64 t226)) (fun _ hk => hk.2) (.int .i64 t227)) (fun _ hk => hk.2) (.int .i64 t228)) (fun _ hk => hk.2) (.string t229)) (fun _ hk => hk.2) (.slice Ao10 t230.length co10)) (fun _ h_ => h_.1)))); (case side2 => exact (Kd.V_reads' HO232.out).2.1); (case side3 => exact gl_4_1 (by repeat first | with_reducible exact HB.out | apply zS | refine below_set ?_ GE235.out | exact HB.out) hG); rintro e w11 ⟨rfl, hb⟩; refine ⟨_, rfl, ?_⟩; have n0_ := Aside0.mk (Kd.V_below (by (with_reducible repeat (first | apply Kd.V_alloc | apply Kd.V_drewN | apply Kd.V_drew)); exact (Kd.V_mono (Kd.V_far (p := ⟨gb235, 9, none⟩) (Kd.V_far (p := ⟨gb235, 8, none⟩) (Kd.V_far (p := ⟨gb235, 7, none⟩) (Kd.V_far (p := ⟨gb235, 6, none⟩) (Kd.V_far (p := ⟨gb235, 5, none⟩) (Kd.V_far (p := ⟨gb235, 4, none⟩) (Kd.V_far (p := ⟨gb235, 3, none⟩) (Kd.V_far (p := ⟨gb235, 2, none⟩) (Kd.V_far (p := ⟨gb235, 1, none⟩) (Kd.V_far (p := ⟨gb235, 0, none⟩) (Kd.V_mono HO232.out (fun k_ hk => (⟨hk, hk.2⟩ : _ ∧ k_ ≠ gb235))) (fun _ hk => hk.2) (.int .i64 t221)) (fun _ hk => hk.2) (.int .i64 t222)) (fun _ hk => hk.2) (.int .i64 t223)) (fun _ hk => hk.2) (.string t224)) (fun _ hk => hk.2) (.int .i64 t225)) (fun _ hk => hk.2) (.int .i64 t226)) (fun _ hk => hk.2) (.int .i64 t227)) (fun _ hk => hk.2) (.int .i64 t228)) (fun _ hk => hk.2) (.string t229)) (fun _ hk => hk.2) (.slice Ao10 t230.length co10)) (fun _ h_ => h_.1))) hb); have n1_ := Aside0.mk (blk_below (g := gb235) (o := .cells #[.int .i64 t221, .int .i64 t222, .int .i64 t223, .string t224, .int .i64 t225, .int .i64 t226, .int .i64 t227, .int .i64 t228, .string t229, .slice Ao10 t230.length co10] 31 (0, 0)) (by refine zB ?_; refine blk_put (cs := #[.int .i64 t221, .int .i64 t222, .int .i64 t223, .string t224, .int .i64 t225, .int .i64 t226, .int .i64 t227, .int .i64 t228, .string t229, .slice none 0 0]) ?_ 9 _ rfl; refine zB ?_; refine blk_put (cs := #[.int .i64 t221, .int .i64 t222, .int .i64 t223, .string t224, .int .i64 t225, .int .i64 t226, .int .i64 t227, .int .i64 t228, .string (⟨#[]⟩ : ByteArray), .slice none 0 0]) ?_ 8 _ rfl; refine zB ?_; refine blk_put (cs := #[.int .i64 t221, .int .i64 t222, .int .i64 t223, .string t224, .int .i64 t225, .int .i64 t226, .int .i64 t227, .int .i64 0, .string (⟨#[]⟩ : ByteArray), .slice none 0 0]) ?_ 7 _ rfl; refine zB ?_; refine blk_put (cs := #[.int .i64 t221, .int .i64 t222, .int .i64 t223, .string t224, .int .i64 t225, .int .i64 t226, .int .i64 0, .int .i64 0, .string (⟨#[]⟩ : ByteArray), .slice none 0 0]) ?_ 6 _ rfl; refine zB ?_; refine blk_put (cs := #[.int .i64 t221, .int .i64 t222, .int .i64 t223, .string t224, .int .i64 t225, .int .i64 0, .int .i64 0, .int .i64 0, .string (⟨#[]⟩ : ByteArray), .slice none 0 0]) ?_ 5 _ rfl; refine zB ?_; refine blk_put (cs := #[.int .i64 t221, .int .i64 t222, .int .i64 t223, .string t224, .int .i64 0, .int .i64 0, .int .i64 0, .int .i64 0, .string (⟨#[]⟩ : ByteArray), .slice none 0 0]) ?_ 4 _ rfl; refine zB ?_; refine blk_put (cs := #[.int .i64 t221, .int .i64 t222, .int .i64 t223, .string (⟨#[]⟩ : ByteArray), .int .i64 0, .int .i64 0, .int .i64 0, .int .i64 0, .string (⟨#[]⟩ : ByteArray), .slice none 0 0]) ?_ 3 _ rfl; refine zB ?_; refine blk_put (cs := #[.int .i64 t221, .int .i64 t222, .int .i64 0, .string (⟨#[]⟩ : ByteArray), .int .i64 0, .int .i64 0, .int .i64 0, .int .i64 0, .string (⟨#[]⟩ : ByteArray), .slice none 0 0]) ?_ 2 _ rfl; refine zB ?_; refine blk_put (cs := #[.int .i64 t221, .int .i64 0, .int .i64 0, .string (⟨#[]⟩ : ByteArray), .int .i64 0, .int .i64 0, .int .i64 0, .int .i64 0, .string (⟨#[]⟩ : ByteArray), .slice none 0 0]) ?_ 1 _ rfl; refine zB ?_; refine blk_put (cs := #[.int .i64 0, .int .i64 0, .int .i64 0, .string (⟨#[]⟩ : ByteArray), .int .i64 0, .int .i64 0, .int .i64 0, .int .i64 0, .string (⟨#[]⟩ : ByteArray), .slice none 0 0]) ?_ 0 _ rfl; refine zB ?_; exact BK235.out) hb); have n2_ := Aside0.mk (below_step (by repeat first | with_reducible exact HB.out | apply zS | refine below_set ?_ GE235.out | exact HB.out) hb); clear HO232; clear BK235; clear HB; have HO232 := n0_; have BK235 := n1_; have HB := n2_; clear n0_ n1_ n2_; (try clear hb); (try clear hb2); (try clear hk); (try clear hi); obtain ⟨hcz12_0, hcz12_1, hcz12_2, hcz12_3, hcz12_4, hcz12_5, hcz12_6, hcz12_7, hcz12_8, hcz12_9, hfz12_0, hfz12_1, hfz12_2, hfz12_3, hfz12_4, hfz12_5, hfz12_6, hfz12_7, hfz12_8, hfz12_9⟩ := zC10 BK235.out) | (go_at_call 15; (with_reducible refine (print_Row.calls k t221 t222 t223 t224 t225 t226 t227 t228 t229 _ _ t230 t238 _ ?side1 ?side2 A6.out).mono ?_); (case side1 => repeat (first | exact (Kd.V_reads' HO232.out).2.2 | (with_reducible refine Kd.C_alloc ?_ _) | (with_reducible refine Kd.C_drewN ?_ _) | (with_reducible refine Kd.C_drew ?_))); (case side2 => exact (Kd.V_reads' HO232.out).2.1); rintro e w13 ⟨rfl, hb⟩; have n0_ := Aside0.mk (Kd.V_below (by (with_reducible repeat (first | apply Kd.V_alloc | apply Kd.V_drewN | apply Kd.V_drew)); exact HO232.out) hb); have n1_ := Aside0.mk (blk_below (g := gb235) (o := .cells #[.int .i64 t221, .int .i64 t222, .int .i64 t223, .string t224, .int .i64 t225, .int .i64 t226, .int .i64 t227, .int .i64 t228, .string t229, .slice Ao10 t230.length co10] 31 (0, 0)) (zB BK235.out) hb); have n2_ := Aside0.mk (below_step (by repeat first | with_reducible exact HB.out | apply zS | refine below_set ?_ GE235.out | exact HB.out) hb); clear HO232; clear BK235; clear HB; have HO232 := n0_; have BK235 := n1_; have HB := n2_; clear n0_ n1_ n2_; (try clear hb); (try clear hb2); (try clear hk); (try clear hi)))
        go_ret
        exact ⟨by first | rfl | (simp [errW_none, errW_some] <;> rfl) | (simp [*, errW_none, errW_some] <;> rfl), by repeat first | with_reducible exact HB.out | apply zS | refine below_set ?_ GE235.out | exact HB.out⟩
      · rw [if_neg c5] at H
        exact absurd H (by simp)
    · rw [if_neg c4] at H
      exact absurd H (by simp)
  · rw [if_neg c3] at H
    exact absurd H (by simp)
end Go.Proofs.YtnomfbmebafolaaGreatDoor.P

namespace Go.Proofs.YtnomfbmebafolaaGreatDoor.P
open Go.RowKit Go.Proofs.YtnomfbmebafolaaGreatDoorW.PrintWords Go.Proofs.YtnomfbmebafolaaGreatDoorW.PrintLast Go.Proofs.YtnomfbmebafolaaGreatDoorW.PrintMore
open M (I64)
set_option linter.unusedVariables false
set_option linter.unusedSimpArgs false
abbrev ptS : List ByteArray := [⟨#[61]⟩, ⟨#[43]⟩, ⟨#[42]⟩, ⟨#[94]⟩]
abbrev ptSO : Obj := .cells (ptS.map Value.string).toArray 9 (0, 0)
def ptD (d : Int) : ByteArray := strOfNums [(48 + d) % 256]
def ptLeaf (d : Int) : TN := ⟨1, ⟨2, d, ⟨#[]⟩⟩, ⟨⟨0, 0⟩, ⟨0, 0⟩⟩, ⟨#[]⟩, []⟩
def ptTwo (op : ByteArray) (a b : TN) : TN := ⟨5, ⟨0, 0, ⟨#[]⟩⟩, ⟨⟨0, 0⟩, ⟨0, 0⟩⟩, op, [a, b]⟩
def ptNeg (a : TN) : TN := ⟨4, ⟨0, 0, ⟨#[]⟩⟩, ⟨⟨0, 0⟩, ⟨0, 0⟩⟩, ⟨#[]⟩, [a]⟩
theorem vN_two {ok : Nat → Prop} {W : World} {a b : TN} {va vb : Value} {q : Nat} (hq : q = W.heap.size) (hok : ok W.heap.size) (h : vN ok W va a.f4) (h' : vN ok W vb b.f4) :
    vN ok (W.alloc (.cells #[.int .i64 a.f0, .int .i64 a.f1.f0, .int .i64 a.f1.f1, .string a.f1.f2, .int .i64 a.f2.f0.f0, .int .i64 a.f2.f0.f1, .int .i64 a.f2.f1.f0, .int .i64 a.f2.f1.f1, .string a.f3, va, .int .i64 b.f0, .int .i64 b.f1.f0, .int .i64 b.f1.f1, .string b.f1.f2, .int .i64 b.f2.f0.f0, .int .i64 b.f2.f0.f1, .int .i64 b.f2.f1.f0, .int .i64 b.f2.f1.f1, .string b.f3, vb] 31 (0, 0))) (.slice (some ⟨q, 0, none⟩) 2 2) [a, b] := by
  subst hq
  obtain ⟨A, c, rfl, hl, hF⟩ := h
  obtain ⟨B, d, rfl, hl', hF'⟩ := h'
  refine ⟨some ⟨W.heap.size, 0, none⟩, 2, rfl, Nat.le_refl _, fun W' hW => ?_⟩
  have hs : ∀ o : Obj, (W.alloc o).heap.size = W.heap.size + 1 := fun o => by simp
  have hC : Kd.C k31 W' A a.f4.length a.f4 := hF W' (fun k hk hlt => (hW k hk (by rw [hs]; omega)).trans (blk_alloc_old W _ hlt))
  have hC' : Kd.C k31 W' B b.f4.length b.f4 := hF' W' (fun k hk hlt => (hW k hk (by rw [hs]; omega)).trans (blk_alloc_old W _ hlt))
  have hb := (hW W.heap.size hok (by rw [hs]; omega)).trans (blk_new W _)
  have ha : ∀ i : Nat, (⟨W.heap.size, 0, none⟩ : Addr).add i = ⟨W.heap.size, i, none⟩ := fun i => by
    unfold Addr.add
    by_cases hi : i = 0
    · simp [hi]
    · simp [hi]
  refine ⟨rfl, by simp, fun _ => ⟨⟨W.heap.size, 0, none⟩, rfl, fun j p hj => ?_⟩⟩
  have hj2 : j < 2 := (List.getElem?_eq_some_iff.1 hj).1
  rcases (show j = 0 ∨ j = 1 by omega) with rfl | rfl
  · simp only [List.getElem?_cons_zero, Option.some.injEq] at hj
    subst hj
    have hi' : ∀ (i : Nat) (u : Value), (#[Value.int .i64 a.f0, .int .i64 a.f1.f0, .int .i64 a.f1.f1, .string a.f1.f2, .int .i64 a.f2.f0.f0, .int .i64 a.f2.f0.f1, .int .i64 a.f2.f1.f0, .int .i64 a.f2.f1.f1, .string a.f3, .slice A a.f4.length c] : Array Value).toList[i]? = some u → i < 10 := fun i u hu => (List.getElem?_eq_some_iff.1 hu).1
    refine ⟨_, rfl, k31_mk W' a hl hC, fun i u hu => ?_⟩
    have h10 := hi' i u hu
    show W'.cell? ((⟨W.heap.size, 0, none⟩ : Addr).add (0 * 10 + i)) = _
    rw [ha, blk_cell hb _, ← hu]
    match i, h10 with
    | 0, _ => rfl
    | 1, _ => rfl
    | 2, _ => rfl
    | 3, _ => rfl
    | 4, _ => rfl
    | 5, _ => rfl
    | 6, _ => rfl
    | 7, _ => rfl
    | 8, _ => rfl
    | 9, _ => rfl
  · simp only [List.getElem?_cons_succ, List.getElem?_cons_zero, Option.some.injEq] at hj
    subst hj
    have hi' : ∀ (i : Nat) (u : Value), (#[Value.int .i64 b.f0, .int .i64 b.f1.f0, .int .i64 b.f1.f1, .string b.f1.f2, .int .i64 b.f2.f0.f0, .int .i64 b.f2.f0.f1, .int .i64 b.f2.f1.f0, .int .i64 b.f2.f1.f1, .string b.f3, .slice B b.f4.length d] : Array Value).toList[i]? = some u → i < 10 := fun i u hu => (List.getElem?_eq_some_iff.1 hu).1
    refine ⟨_, rfl, k31_mk W' b hl' hC', fun i u hu => ?_⟩
    have h10 := hi' i u hu
    show W'.cell? ((⟨W.heap.size, 0, none⟩ : Addr).add (1 * 10 + i)) = _
    rw [ha, blk_cell hb _, ← hu]
    match i, h10 with
    | 0, _ => rfl
    | 1, _ => rfl
    | 2, _ => rfl
    | 3, _ => rfl
    | 4, _ => rfl
    | 5, _ => rfl
    | 6, _ => rfl
    | 7, _ => rfl
    | 8, _ => rfl
    | 9, _ => rfl
theorem C_to_V {W : World} {A : Option Addr} {c : Nat} {l : List TN} (hC : Kd.C k31 W A l.length l) (hc : l.length ≤ c) : vN (fun k => k ≤ W.heap.size) W (.slice A l.length c) l := Kd.V_mono (Kd.V_mk hc (Kd.C_F nd_heap hC)) (fun k hk => Nat.le_of_lt hk)
theorem C_two {W : World} {a b : TN} {A B : Option Addr} {c d : Nat} (hA : Kd.C k31 W A a.f4.length a.f4) (ha : a.f4.length ≤ c) (hB : Kd.C k31 W B b.f4.length b.f4) (hb : b.f4.length ≤ d) :
    Kd.C k31 (W.alloc (.cells #[.int .i64 a.f0, .int .i64 a.f1.f0, .int .i64 a.f1.f1, .string a.f1.f2, .int .i64 a.f2.f0.f0, .int .i64 a.f2.f0.f1, .int .i64 a.f2.f1.f0, .int .i64 a.f2.f1.f1, .string a.f3, .slice A a.f4.length c, .int .i64 b.f0, .int .i64 b.f1.f0, .int .i64 b.f1.f1, .string b.f1.f2, .int .i64 b.f2.f0.f0, .int .i64 b.f2.f0.f1, .int .i64 b.f2.f1.f0, .int .i64 b.f2.f1.f1, .string b.f3, .slice B b.f4.length d] 31 (0, 0))) (some ⟨W.heap.size, 0, none⟩) 2 [a, b] :=
  (Kd.V_reads' (xs := [a, b]) (c := 2) (vN_two (ok := fun k => k ≤ W.heap.size) rfl (Nat.le_refl _) (C_to_V hA ha) (C_to_V hB hb))).2.2
theorem C_one {W : World} {a : TN} {A : Option Addr} {c : Nat} (hA : Kd.C k31 W A a.f4.length a.f4) (ha : a.f4.length ≤ c) :
    Kd.C k31 (W.alloc (.cells #[.int .i64 a.f0, .int .i64 a.f1.f0, .int .i64 a.f1.f1, .string a.f1.f2, .int .i64 a.f2.f0.f0, .int .i64 a.f2.f0.f1, .int .i64 a.f2.f1.f0, .int .i64 a.f2.f1.f1, .string a.f3, .slice A a.f4.length c] 31 (0, 0))) (some ⟨W.heap.size, 0, none⟩) 1 [a] :=
  (Kd.V_reads' (xs := [a]) (c := 1) (vN_one (ok := fun k => k ≤ W.heap.size) rfl (Nat.le_refl _) (C_to_V hA ha))).2.2
theorem C_leaf (W : World) (d : Int) : Kd.C k31 W none (ptLeaf d).f4.length (ptLeaf d).f4 := (Kd.V_reads' (A := none) (xs := ([] : List TN)) (c := 0) (Kd.V_nil k31 31 W 0 (fun _ => True))).2.2
theorem text_two (K : Nat) (op : ByteArray) (a b : TN) (q : Nat) (r1 : ByteArray) (r2 : Int) (W : World) (hC : Kd.C k31 W (some ⟨q, 0, none⟩) 2 [a, b]) (hG : G1 W) (h : textO K (ptTwo op a b) = some (r1, r2)) :
    Calls Tryz.prog 5 #[.agg #[.int .i64 5, .int .i64 0, .int .i64 0, .string ⟨#[]⟩, .int .i64 0, .int .i64 0, .int .i64 0, .int .i64 0, .string op, .slice (some ⟨q, 0, none⟩) 2 2]] W fun e W' => e = .returned (.tuple #[.string r1, .int .i64 r2]) ∧ Below W.heap.size W W' :=
  text_calls K (ptTwo op a b) (some ⟨q, 0, none⟩) 2 r1 r2 W hC (Nat.le_refl _) hG h
theorem text_one (K : Nat) (a : TN) (q : Nat) (r1 : ByteArray) (r2 : Int) (W : World) (hC : Kd.C k31 W (some ⟨q, 0, none⟩) 1 [a]) (hG : G1 W) (h : textO K (ptNeg a) = some (r1, r2)) :
    Calls Tryz.prog 5 #[.agg #[.int .i64 4, .int .i64 0, .int .i64 0, .string ⟨#[]⟩, .int .i64 0, .int .i64 0, .int .i64 0, .int .i64 0, .string ⟨#[]⟩, .slice (some ⟨q, 0, none⟩) 1 1]] W fun e W' => e = .returned (.tuple #[.string r1, .int .i64 r2]) ∧ Below W.heap.size W W' :=
  text_calls K (ptNeg a) (some ⟨q, 0, none⟩) 1 r1 r2 W hC (Nat.le_refl _) hG h
end Go.Proofs.YtnomfbmebafolaaGreatDoor.P

namespace Go.Proofs.YtnomfbmebafolaaGreatDoor.P
open Go.RowKit Go.Proofs.YtnomfbmebafolaaGreatDoorW.PrintWords Go.Proofs.YtnomfbmebafolaaGreatDoorW.PrintLast Go.Proofs.YtnomfbmebafolaaGreatDoorW.PrintMore
open M (I64)
set_option linter.unusedVariables false
set_option linter.unusedSimpArgs false
abbrev lfO (d : Int) : Obj := .cells #[.int .i64 1, .int .i64 2, .int .i64 d, .string (⟨#[]⟩ : ByteArray), .int .i64 0, .int .i64 0, .int .i64 0, .int .i64 0, .string (⟨#[]⟩ : ByteArray), .slice none 0 0] 31 (0, 0)
abbrev inO (sy : ByteArray) (rq : Nat) : Obj := .cells #[.int .i64 5, .int .i64 0, .int .i64 0, .string (⟨#[]⟩ : ByteArray), .int .i64 0, .int .i64 0, .int .i64 0, .int .i64 0, .string sy, .slice (some ⟨rq, 0, none⟩) 2 2] 31 (0, 0)
abbrev SA (X : World) (bs lq : Nat) (z : Nat) (s : ByteArray) (d : Int) : Prop := X.cell? ⟨bs, z, none⟩ = some (.string s) ∧ X.cell? ⟨lq, 0, none⟩ = some (.int .i64 1) ∧ X.cell? ⟨lq, 1, none⟩ = some (.int .i64 2) ∧ X.cell? ⟨lq, 2, none⟩ = some (.int .i64 d) ∧ X.cell? ⟨lq, 3, none⟩ = some (.string (⟨#[]⟩ : ByteArray)) ∧ X.cell? ⟨lq, 4, none⟩ = some (.int .i64 0) ∧ X.cell? ⟨lq, 5, none⟩ = some (.int .i64 0) ∧ X.cell? ⟨lq, 6, none⟩ = some (.int .i64 0) ∧ X.cell? ⟨lq, 7, none⟩ = some (.int .i64 0) ∧ X.cell? ⟨lq, 8, none⟩ = some (.string (⟨#[]⟩ : ByteArray)) ∧ X.cell? ⟨lq, 9, none⟩ = some (.slice none 0 0)
theorem sa_step {X Y : World} {bs lq : Nat} {z : Nat} {s : ByteArray} {d : Int} (h : SA X bs lq z s d) (hs : ∀ p : Addr, p.block < X.heap.size → Y.cell? p = X.cell? p) : SA Y bs lq z s d :=
  have one : ∀ (p : Addr) (v : Value), X.cell? p = some v → Y.cell? p = some v := fun p v h => (hs p (World.block_lt_of_cell? _ _ h)).trans h
  ⟨one _ _ h.1, one _ _ h.2.1, one _ _ h.2.2.1, one _ _ h.2.2.2.1, one _ _ h.2.2.2.2.1, one _ _ h.2.2.2.2.2.1, one _ _ h.2.2.2.2.2.2.1, one _ _ h.2.2.2.2.2.2.2.1, one _ _ h.2.2.2.2.2.2.2.2.1, one _ _ h.2.2.2.2.2.2.2.2.2.1, one _ _ h.2.2.2.2.2.2.2.2.2.2⟩
theorem sa_below {X Y : World} {bs lq : Nat} {z : Nat} {s : ByteArray} {d : Int} (hb : Below X.heap.size X Y) (h : SA X bs lq z s d) : SA Y bs lq z s d := sa_step h fun p hp => Below.cell hb hp
theorem sa_alloc {X : World} {bs lq : Nat} {z : Nat} {s : ByteArray} {d : Int} (ob : Obj) (h : SA X bs lq z s d) : SA (X.alloc ob) bs lq z s d := sa_below (below_alloc (Below.refl _ _) ob) h
theorem sa_drew {X : World} {bs lq : Nat} {z : Nat} {s : ByteArray} {d : Int} (h : SA X bs lq z s d) : SA X.drew bs lq z s d := h
abbrev SB (X : World) (bs lq iq rq : Nat) (z : Nat) (s sy : ByteArray) (d : Int) : Prop := X.cell? ⟨bs, z, none⟩ = some (.string s) ∧ X.cell? ⟨lq, 0, none⟩ = some (.int .i64 1) ∧ X.cell? ⟨lq, 1, none⟩ = some (.int .i64 2) ∧ X.cell? ⟨lq, 2, none⟩ = some (.int .i64 d) ∧ X.cell? ⟨lq, 3, none⟩ = some (.string (⟨#[]⟩ : ByteArray)) ∧ X.cell? ⟨lq, 4, none⟩ = some (.int .i64 0) ∧ X.cell? ⟨lq, 5, none⟩ = some (.int .i64 0) ∧ X.cell? ⟨lq, 6, none⟩ = some (.int .i64 0) ∧ X.cell? ⟨lq, 7, none⟩ = some (.int .i64 0) ∧ X.cell? ⟨lq, 8, none⟩ = some (.string (⟨#[]⟩ : ByteArray)) ∧ X.cell? ⟨lq, 9, none⟩ = some (.slice none 0 0) ∧ X.cell? ⟨iq, 0, none⟩ = some (.int .i64 5) ∧ X.cell? ⟨iq, 1, none⟩ = some (.int .i64 0) ∧ X.cell? ⟨iq, 2, none⟩ = some (.int .i64 0) ∧ X.cell? ⟨iq, 3, none⟩ = some (.string (⟨#[]⟩ : ByteArray)) ∧ X.cell? ⟨iq, 4, none⟩ = some (.int .i64 0) ∧ X.cell? ⟨iq, 5, none⟩ = some (.int .i64 0) ∧ X.cell? ⟨iq, 6, none⟩ = some (.int .i64 0) ∧ X.cell? ⟨iq, 7, none⟩ = some (.int .i64 0) ∧ X.cell? ⟨iq, 8, none⟩ = some (.string sy) ∧ X.cell? ⟨iq, 9, none⟩ = some (.slice (some ⟨rq, 0, none⟩) 2 2)
theorem sb_step {X Y : World} {bs lq iq rq : Nat} {z : Nat} {s sy : ByteArray} {d : Int} (h : SB X bs lq iq rq z s sy d) (hs : ∀ p : Addr, p.block < X.heap.size → Y.cell? p = X.cell? p) : SB Y bs lq iq rq z s sy d :=
  have one : ∀ (p : Addr) (v : Value), X.cell? p = some v → Y.cell? p = some v := fun p v h => (hs p (World.block_lt_of_cell? _ _ h)).trans h
  ⟨one _ _ h.1, one _ _ h.2.1, one _ _ h.2.2.1, one _ _ h.2.2.2.1, one _ _ h.2.2.2.2.1, one _ _ h.2.2.2.2.2.1, one _ _ h.2.2.2.2.2.2.1, one _ _ h.2.2.2.2.2.2.2.1, one _ _ h.2.2.2.2.2.2.2.2.1, one _ _ h.2.2.2.2.2.2.2.2.2.1, one _ _ h.2.2.2.2.2.2.2.2.2.2.1, one _ _ h.2.2.2.2.2.2.2.2.2.2.2.1, one _ _ h.2.2.2.2.2.2.2.2.2.2.2.2.1, one _ _ h.2.2.2.2.2.2.2.2.2.2.2.2.2.1, one _ _ h.2.2.2.2.2.2.2.2.2.2.2.2.2.2.1, one _ _ h.2.2.2.2.2.2.2.2.2.2.2.2.2.2.2.1, one _ _ h.2.2.2.2.2.2.2.2.2.2.2.2.2.2.2.2.1, one _ _ h.2.2.2.2.2.2.2.2.2.2.2.2.2.2.2.2.2.1, one _ _ h.2.2.2.2.2.2.2.2.2.2.2.2.2.2.2.2.2.2.1, one _ _ h.2.2.2.2.2.2.2.2.2.2.2.2.2.2.2.2.2.2.2.1, one _ _ h.2.2.2.2.2.2.2.2.2.2.2.2.2.2.2.2.2.2.2.2⟩
theorem sb_below {X Y : World} {bs lq iq rq : Nat} {z : Nat} {s sy : ByteArray} {d : Int} (hb : Below X.heap.size X Y) (h : SB X bs lq iq rq z s sy d) : SB Y bs lq iq rq z s sy d := sb_step h fun p hp => Below.cell hb hp
theorem sb_alloc {X : World} {bs lq iq rq : Nat} {z : Nat} {s sy : ByteArray} {d : Int} (ob : Obj) (h : SB X bs lq iq rq z s sy d) : SB (X.alloc ob) bs lq iq rq z s sy d := sb_below (below_alloc (Below.refl _ _) ob) h
theorem sb_drew {X : World} {bs lq iq rq : Nat} {z : Nat} {s sy : ByteArray} {d : Int} (h : SB X bs lq iq rq z s sy d) : SB X.drew bs lq iq rq z s sy d := h
theorem pt_sign {X : World} {bs z : Nat} {s : ByteArray} (h1 : X.heap[bs]? = some ptSO) (hz : ptS[z]? = some s) : X.cell? ⟨bs, z, none⟩ = some (.string s) := by
  refine (blk_cell h1 z).trans ?_
  have hl : z < 4 := (List.getElem?_eq_some_iff.1 hz).1
  match z, hl with
  | 0, _ => cases hz; rfl
  | 1, _ => cases hz; rfl
  | 2, _ => cases hz; rfl
  | 3, _ => cases hz; rfl
theorem pt_conv (wr : World) (v : Int) : (convert 35 9 (.slice (some ⟨wr.heap.size, 0, none⟩) 1 1)).run Tryz.prog (wr.alloc (.cells #[.int .u8 v] 5)) = .ok (.string (strOfNums [v])) (wr.alloc (.cells #[.int .u8 v] 5)) := by
  refine run_convert_bytes_arg _ _ 5 Tryz.underlying35 Tryz.underlying5 _ 0 1 1 [v] rfl (fun i hi => ?_) _ Tryz.underlying9
  obtain rfl : i = 0 := by omega
  exact (blk_cell (blk_new wr _) 0).trans rfl
theorem pt_wakes : pannierlaw06_wakes.f 1000 = some true := by decide +kernel
theorem C_two' {W : World} {a b : TN} {A B : Option Addr} {c d q : Nat} {va vb : Value} (hq : q = W.heap.size) (hA : Kd.C k31 W A a.f4.length a.f4) (ha : a.f4.length ≤ c) (hB : Kd.C k31 W B b.f4.length b.f4) (hb : b.f4.length ≤ d) (ea : .slice A a.f4.length c = va) (eb : .slice B b.f4.length d = vb) :
    Kd.C k31 (W.alloc (.cells #[.int .i64 a.f0, .int .i64 a.f1.f0, .int .i64 a.f1.f1, .string a.f1.f2, .int .i64 a.f2.f0.f0, .int .i64 a.f2.f0.f1, .int .i64 a.f2.f1.f0, .int .i64 a.f2.f1.f1, .string a.f3, va, .int .i64 b.f0, .int .i64 b.f1.f0, .int .i64 b.f1.f1, .string b.f1.f2, .int .i64 b.f2.f0.f0, .int .i64 b.f2.f0.f1, .int .i64 b.f2.f1.f0, .int .i64 b.f2.f1.f1, .string b.f3, vb] 31 (0, 0))) (some ⟨q, 0, none⟩) 2 [a, b] := by
  subst hq; subst ea; subst eb
  exact C_two hA ha hB hb
abbrev LF (d : Int) : TN := ptLeaf d
abbrev IN (sy : ByteArray) (d : Int) : TN := ptTwo sy (ptLeaf d) (ptLeaf d)
theorem C_ll (W : World) (d : Int) (q : Nat) (hq : q = W.heap.size) : Kd.C k31 (W.alloc (.cells #[.int .i64 1, .int .i64 2, .int .i64 d, .string (⟨#[]⟩ : ByteArray), .int .i64 0, .int .i64 0, .int .i64 0, .int .i64 0, .string (⟨#[]⟩ : ByteArray), .slice none 0 0, .int .i64 1, .int .i64 2, .int .i64 d, .string (⟨#[]⟩ : ByteArray), .int .i64 0, .int .i64 0, .int .i64 0, .int .i64 0, .string (⟨#[]⟩ : ByteArray), .slice none 0 0] 31 (0, 0))) (some ⟨q, 0, none⟩) 2 [LF d, LF d] :=
  C_two' (a := LF d) (b := LF d) (c := 0) (d := 0) hq (C_leaf W d) (Nat.le_refl _) (C_leaf W d) (Nat.le_refl _) rfl rfl
theorem C_il (W : World) (d : Int) (sy : ByteArray) (rq q : Nat) (hq : q = W.heap.size) (h : Kd.C k31 W (some ⟨rq, 0, none⟩) 2 [LF d, LF d]) : Kd.C k31 (W.alloc (.cells #[.int .i64 5, .int .i64 0, .int .i64 0, .string (⟨#[]⟩ : ByteArray), .int .i64 0, .int .i64 0, .int .i64 0, .int .i64 0, .string sy, .slice (some ⟨rq, 0, none⟩) 2 2, .int .i64 1, .int .i64 2, .int .i64 d, .string (⟨#[]⟩ : ByteArray), .int .i64 0, .int .i64 0, .int .i64 0, .int .i64 0, .string (⟨#[]⟩ : ByteArray), .slice none 0 0] 31 (0, 0))) (some ⟨q, 0, none⟩) 2 [IN sy d, LF d] :=
  C_two' (a := IN sy d) (b := LF d) (c := 2) (d := 0) hq h (Nat.le_refl _) (C_leaf W d) (Nat.le_refl _) rfl rfl
theorem C_li (W : World) (d : Int) (sy : ByteArray) (rq q : Nat) (hq : q = W.heap.size) (h : Kd.C k31 W (some ⟨rq, 0, none⟩) 2 [LF d, LF d]) : Kd.C k31 (W.alloc (.cells #[.int .i64 1, .int .i64 2, .int .i64 d, .string (⟨#[]⟩ : ByteArray), .int .i64 0, .int .i64 0, .int .i64 0, .int .i64 0, .string (⟨#[]⟩ : ByteArray), .slice none 0 0, .int .i64 5, .int .i64 0, .int .i64 0, .string (⟨#[]⟩ : ByteArray), .int .i64 0, .int .i64 0, .int .i64 0, .int .i64 0, .string sy, .slice (some ⟨rq, 0, none⟩) 2 2] 31 (0, 0))) (some ⟨q, 0, none⟩) 2 [LF d, IN sy d] :=
  C_two' (a := LF d) (b := IN sy d) (c := 0) (d := 2) hq (C_leaf W d) (Nat.le_refl _) h (Nat.le_refl _) rfl rfl
theorem C_i (W : World) (d : Int) (sy : ByteArray) (rq q : Nat) (hq : q = W.heap.size) (h : Kd.C k31 W (some ⟨rq, 0, none⟩) 2 [LF d, LF d]) : Kd.C k31 (W.alloc (.cells #[.int .i64 5, .int .i64 0, .int .i64 0, .string (⟨#[]⟩ : ByteArray), .int .i64 0, .int .i64 0, .int .i64 0, .int .i64 0, .string sy, .slice (some ⟨rq, 0, none⟩) 2 2] 31 (0, 0))) (some ⟨q, 0, none⟩) 1 [IN sy d] := by
  subst hq
  exact C_one (a := IN sy d) (c := 2) h (Nat.le_refl _)
theorem sa_of {X : World} {bs lq z : Nat} {s : ByteArray} {d : Int} (h1 : X.heap[bs]? = some ptSO) (hz : ptS[z]? = some s) (h2 : X.heap[lq]? = some (lfO d)) : SA X bs lq z s d := by
  obtain ⟨⟨c0, c1, c2, c3, c4, c5, c6, c7, c8, c9⟩, -⟩ := z10 h2
  exact ⟨pt_sign h1 hz, c0, c1, c2, c3, c4, c5, c6, c7, c8, c9⟩
theorem sb_of {X : World} {bs lq iq rq z : Nat} {s sy : ByteArray} {d : Int} (h1 : X.heap[bs]? = some ptSO) (hz : ptS[z]? = some s) (h2 : X.heap[lq]? = some (lfO d)) (h3 : X.heap[iq]? = some (inO sy rq)) : SB X bs lq iq rq z s sy d := by
  obtain ⟨⟨c0, c1, c2, c3, c4, c5, c6, c7, c8, c9⟩, -⟩ := z10 h2
  obtain ⟨⟨e0, e1, e2, e3, e4, e5, e6, e7, e8, e9⟩, -⟩ := z10 h3
  exact ⟨pt_sign h1 hz, c0, c1, c2, c3, c4, c5, c6, c7, c8, c9, e0, e1, e2, e3, e4, e5, e6, e7, e8, e9⟩
end Go.Proofs.YtnomfbmebafolaaGreatDoor.P

namespace Go.Proofs.YtnomfbmebafolaaGreatDoor.P
open Go.RowKit Go.Proofs.YtnomfbmebafolaaGreatDoorW.PrintWords Go.Proofs.YtnomfbmebafolaaGreatDoorW.PrintLast Go.Proofs.YtnomfbmebafolaaGreatDoorW.PrintMore
open M (I64)
set_option linter.unusedVariables false
set_option linter.unusedSimpArgs false
set_option maxHeartbeats 16000000 in
set_option maxRecDepth 100000 in
theorem tight_walk (k0 k1 k2 : Int) (w : World) (hG : G4 w) (b0 : 0 ≤ k0 ∧ k0 ≤ 255) (b1 : 0 ≤ k1 ∧ k1 ≤ 255) (x y : Nat) (d : Int) (hx : Int.tmod k0 4 = (x : Int)) (hy : Int.tmod k1 4 = (y : Int)) (hd : Int.tmod k2 10 = d) (hd9 : 0 ≤ d ∧ d ≤ 9) (hxl : x < 4) (hyl : y < 4) (sx sy : ByteArray) (hsx : ptS[x]? = some sx) (hsy : ptS[y]? = some sy) (hzx : sx.size = 1) (hzy : sy.size = 1) (hzd : (ptD d).size = 1) (core wrap lf rt : ByteArray) (hcore : (ptD d ++ sy) ++ ptD d = core) (hwrap : ((⟨#[40]⟩ : ByteArray) ++ core) ++ (⟨#[41]⟩ : ByteArray) = wrap) (K : Nat)
    (h1 : textO K (ptTwo sx (IN sy d) (LF d)) = some ((lf ++ sx) ++ ptD d, 0)) (h2 : textO K (ptTwo sx (LF d) (IN sy d)) = some ((ptD d ++ sx) ++ rt, 0)) (h3 : textO K (ptNeg (IN sy d)) = some ((⟨#[45]⟩ : ByteArray) ++ wrap, 0))
    (hcase : (x < y ∧ lf = core ∧ rt = core) ∨ (x = y ∧ (x = 1 ∨ x = 2) ∧ lf = core ∧ rt = wrap) ∨ (x = y ∧ x = 3 ∧ lf = wrap ∧ rt = core) ∨ (x = y ∧ x = 0 ∧ lf = wrap ∧ rt = wrap) ∨ (y < x ∧ lf = wrap ∧ rt = wrap)) :
    Calls Tryz.prog 3 #[.int .u8 k0, .int .u8 k1, .int .u8 k2] w fun e w' => e = .returned (.bool true) ∧ Below w.heap.size w w' := by
  have hu31 := Tryz.underlying31
  have hu24 := Tryz.underlying24
  have hu22 := Tryz.underlying22
  have HG := Lib.hid hG
  have H1 := Lib.hid h1
  have H2 := Lib.hid h2
  have H3 := Lib.hid h3
  have HC := Lib.hid hcase
  have HW := Lib.hid pt_wakes
  have HSX := Lib.hid hsx
  have HSY := Lib.hid hsy
  have hw0 : IntKind.i64.wrap k0 = k0 := by rw [i64_w, M.wrap64_id (by unfold I64; omega)]
  have hw1 : IntKind.i64.wrap k1 = k1 := by rw [i64_w, M.wrap64_id (by unfold I64; omega)]
  have hwd : IntKind.i64.wrap d = d := by rw [i64_w, M.wrap64_id (by unfold I64; omega)]
  have y0_ : (0 : Int) ≤ (y : Int) := by omega
  have y1_ : (y : Int) < 4 := by omega
  have x0_ : (0 : Int) ≤ (x : Int) := by omega
  have x1_ : (x : Int) < 4 := by omega
  clear hG h1 h2 h3 hcase hsx hsy
  go_enter Tryz.func3, Tryz.ntmps3
  go_upto_region 4 with fail
  have hS0 : (World.heap (World.alloc (World.alloc w (.cells #[.string ⟨#[61]⟩, .string ⟨#[43]⟩, .string ⟨#[42]⟩, .string ⟨#[94]⟩] 9)) (.cells #[.int .i64 1, .int .i64 2, .int .i64 d, .string (⟨#[]⟩ : ByteArray), .int .i64 0, .int .i64 0, .int .i64 0, .int .i64 0, .string (⟨#[]⟩ : ByteArray), .slice none 0 0] 31)))[w.heap.size]? = some ptSO := blk_alloc (blk_new w _) _
  have hL0 : (World.heap (World.alloc (World.alloc w (.cells #[.string ⟨#[61]⟩, .string ⟨#[43]⟩, .string ⟨#[42]⟩, .string ⟨#[94]⟩] 9)) (.cells #[.int .i64 1, .int .i64 2, .int .i64 d, .string (⟨#[]⟩ : ByteArray), .int .i64 0, .int .i64 0, .int .i64 0, .int .i64 0, .string (⟨#[]⟩ : ByteArray), .slice none 0 0] 31)))[w.heap.size + 1]? = some (lfO d) := blk_at _ _ _ (by simp)
  have hB0 : Below w.heap.size w (World.alloc (World.alloc w (.cells #[.string ⟨#[61]⟩, .string ⟨#[43]⟩, .string ⟨#[42]⟩, .string ⟨#[94]⟩] 9)) (.cells #[.int .i64 1, .int .i64 2, .int .i64 d, .string (⟨#[]⟩ : ByteArray), .int .i64 0, .int .i64 0, .int .i64 0, .int .i64 0, .string (⟨#[]⟩ : ByteArray), .slice none 0 0] 31)) := below_alloc (below_alloc (Below.refl _ _) _) _
  have hsz0 : (World.heap (World.alloc (World.alloc w (.cells #[.string ⟨#[61]⟩, .string ⟨#[43]⟩, .string ⟨#[42]⟩, .string ⟨#[94]⟩] 9)) (.cells #[.int .i64 1, .int .i64 2, .int .i64 d, .string (⟨#[]⟩ : ByteArray), .int .i64 0, .int .i64 0, .int .i64 0, .int .i64 0, .string (⟨#[]⟩ : ByteArray), .slice none 0 0] 31))).size = w.heap.size + 2 := by simp
  generalize (World.alloc (World.alloc w (.cells #[.string ⟨#[61]⟩, .string ⟨#[43]⟩, .string ⟨#[42]⟩, .string ⟨#[94]⟩] 9)) (.cells #[.int .i64 1, .int .i64 2, .int .i64 d, .string (⟨#[]⟩ : ByteArray), .int .i64 0, .int .i64 0, .int .i64 0, .int .i64 0, .string (⟨#[]⟩ : ByteArray), .slice none 0 0] 31)) = wr at hS0 hL0 hB0 hsz0 ⊢
  have HSb := Lib.hid hS0
  have HLb := Lib.hid hL0
  have HBb := Lib.hid hB0
  have KK := Lib.hid (sa_of hS0 HSY.out hL0)
  have HNA := Lib.hid (show w.heap.size ≠ wr.heap.size ∧ w.heap.size + 1 ≠ wr.heap.size from ⟨by omega, by omega⟩)
  have HSZ := Lib.hid hsz0
  obtain ⟨sg_, l0_, l1_, l2_, l3_, l4_, l5_, l6_, l7_, l8_, l9_⟩ := KK.out
  clear hS0 hL0 hB0 hsz0
  go_region_held3 (fun w' => w'.cell? ⟨w.heap.size, y, none⟩ = some (.string sy) ∧ w'.cell? ⟨w.heap.size + 1, 0, none⟩ = some (.int .i64 1) ∧ w'.cell? ⟨w.heap.size + 1, 1, none⟩ = some (.int .i64 2) ∧ w'.cell? ⟨w.heap.size + 1, 2, none⟩ = some (.int .i64 d) ∧ w'.cell? ⟨w.heap.size + 1, 3, none⟩ = some (.string (⟨#[]⟩ : ByteArray)) ∧ w'.cell? ⟨w.heap.size + 1, 4, none⟩ = some (.int .i64 0) ∧ w'.cell? ⟨w.heap.size + 1, 5, none⟩ = some (.int .i64 0) ∧ w'.cell? ⟨w.heap.size + 1, 6, none⟩ = some (.int .i64 0) ∧ w'.cell? ⟨w.heap.size + 1, 7, none⟩ = some (.int .i64 0) ∧ w'.cell? ⟨w.heap.size + 1, 8, none⟩ = some (.string (⟨#[]⟩ : ByteArray)) ∧ w'.cell? ⟨w.heap.size + 1, 9, none⟩ = some (.slice none 0 0)) (with_reducible first | (refine sa_put10 ?s5 ?q5 ?r5; (case q5 => exact HNA.out.1); (case r5 => exact HNA.out.2); (case s5 => repeat (first | exact KK.out | refine sa_alloc _ ?_ | refine sa_drewN _ ?_ | refine sa_drew ?_))) | (repeat (first | exact KK.out | refine sa_alloc _ ?_ | refine sa_drewN _ ?_ | refine sa_drew ?_))) (fail)
  all_goals clear sg_ l0_ l1_ l2_ l3_ l4_ l5_ l6_ l7_ l8_ l9_ KK
  have HE := Lib.hid (show Below w.heap.size w (World.drew (World.alloc (World.alloc wr (.cells #[.int .i64 1, .int .i64 2, .int .i64 d, .string (⟨#[]⟩ : ByteArray), .int .i64 0, .int .i64 0, .int .i64 0, .int .i64 0, .string (⟨#[]⟩ : ByteArray), .slice none 0 0, .int .i64 1, .int .i64 2, .int .i64 d, .string (⟨#[]⟩ : ByteArray), .int .i64 0, .int .i64 0, .int .i64 0, .int .i64 0, .string (⟨#[]⟩ : ByteArray), .slice none 0 0] 31)) (.cells #[.int .i64 5, .int .i64 0, .int .i64 0, .string (⟨#[]⟩ : ByteArray), .int .i64 0, .int .i64 0, .int .i64 0, .int .i64 0, .string sy, .slice (some ⟨wr.heap.size, 0, none⟩) 2 2] 31))) from Below.drew (below_alloc (below_alloc HBb.out _) _))
  have HS := Lib.hid (show (World.heap (World.drew (World.alloc (World.alloc wr (.cells #[.int .i64 1, .int .i64 2, .int .i64 d, .string (⟨#[]⟩ : ByteArray), .int .i64 0, .int .i64 0, .int .i64 0, .int .i64 0, .string (⟨#[]⟩ : ByteArray), .slice none 0 0, .int .i64 1, .int .i64 2, .int .i64 d, .string (⟨#[]⟩ : ByteArray), .int .i64 0, .int .i64 0, .int .i64 0, .int .i64 0, .string (⟨#[]⟩ : ByteArray), .slice none 0 0] 31)) (.cells #[.int .i64 5, .int .i64 0, .int .i64 0, .string (⟨#[]⟩ : ByteArray), .int .i64 0, .int .i64 0, .int .i64 0, .int .i64 0, .string sy, .slice (some ⟨wr.heap.size, 0, none⟩) 2 2] 31))))[w.heap.size]? = some ptSO from blk_drew (blk_alloc (blk_alloc HSb.out _) _))
  have HL := Lib.hid (show (World.heap (World.drew (World.alloc (World.alloc wr (.cells #[.int .i64 1, .int .i64 2, .int .i64 d, .string (⟨#[]⟩ : ByteArray), .int .i64 0, .int .i64 0, .int .i64 0, .int .i64 0, .string (⟨#[]⟩ : ByteArray), .slice none 0 0, .int .i64 1, .int .i64 2, .int .i64 d, .string (⟨#[]⟩ : ByteArray), .int .i64 0, .int .i64 0, .int .i64 0, .int .i64 0, .string (⟨#[]⟩ : ByteArray), .slice none 0 0] 31)) (.cells #[.int .i64 5, .int .i64 0, .int .i64 0, .string (⟨#[]⟩ : ByteArray), .int .i64 0, .int .i64 0, .int .i64 0, .int .i64 0, .string sy, .slice (some ⟨wr.heap.size, 0, none⟩) 2 2] 31))))[w.heap.size + 1]? = some (lfO d) from blk_drew (blk_alloc (blk_alloc HLb.out _) _))
  have HX := Lib.hid (show (World.heap (World.drew (World.alloc (World.alloc wr (.cells #[.int .i64 1, .int .i64 2, .int .i64 d, .string (⟨#[]⟩ : ByteArray), .int .i64 0, .int .i64 0, .int .i64 0, .int .i64 0, .string (⟨#[]⟩ : ByteArray), .slice none 0 0, .int .i64 1, .int .i64 2, .int .i64 d, .string (⟨#[]⟩ : ByteArray), .int .i64 0, .int .i64 0, .int .i64 0, .int .i64 0, .string (⟨#[]⟩ : ByteArray), .slice none 0 0] 31)) (.cells #[.int .i64 5, .int .i64 0, .int .i64 0, .string (⟨#[]⟩ : ByteArray), .int .i64 0, .int .i64 0, .int .i64 0, .int .i64 0, .string sy, .slice (some ⟨wr.heap.size, 0, none⟩) 2 2] 31))))[wr.heap.size + 1]? = some (inO sy (wr.heap.size)) from blk_drew (blk_at _ _ _ (by simp)))
  have HR := Lib.hid (show Kd.C k31 (World.drew (World.alloc (World.alloc wr (.cells #[.int .i64 1, .int .i64 2, .int .i64 d, .string (⟨#[]⟩ : ByteArray), .int .i64 0, .int .i64 0, .int .i64 0, .int .i64 0, .string (⟨#[]⟩ : ByteArray), .slice none 0 0, .int .i64 1, .int .i64 2, .int .i64 d, .string (⟨#[]⟩ : ByteArray), .int .i64 0, .int .i64 0, .int .i64 0, .int .i64 0, .string (⟨#[]⟩ : ByteArray), .slice none 0 0] 31)) (.cells #[.int .i64 5, .int .i64 0, .int .i64 0, .string (⟨#[]⟩ : ByteArray), .int .i64 0, .int .i64 0, .int .i64 0, .int .i64 0, .string sy, .slice (some ⟨wr.heap.size, 0, none⟩) 2 2] 31))) (some ⟨wr.heap.size, 0, none⟩) 2 [LF d, LF d] from Kd.C_below (Kd.C_alloc (C_ll wr d wr.heap.size rfl) _) (Below.drew (Below.refl _ _)))
  generalize (World.drew (World.alloc (World.alloc wr (.cells #[.int .i64 1, .int .i64 2, .int .i64 d, .string (⟨#[]⟩ : ByteArray), .int .i64 0, .int .i64 0, .int .i64 0, .int .i64 0, .string (⟨#[]⟩ : ByteArray), .slice none 0 0, .int .i64 1, .int .i64 2, .int .i64 d, .string (⟨#[]⟩ : ByteArray), .int .i64 0, .int .i64 0, .int .i64 0, .int .i64 0, .string (⟨#[]⟩ : ByteArray), .slice none 0 0] 31)) (.cells #[.int .i64 5, .int .i64 0, .int .i64 0, .string (⟨#[]⟩ : ByteArray), .int .i64 0, .int .i64 0, .int .i64 0, .int .i64 0, .string sy, .slice (some ⟨wr.heap.size, 0, none⟩) 2 2] 31))) = v at HE HS HL HX HR ⊢
  generalize wr.heap.size + 1 = q at HX HR ⊢
  generalize wr.heap.size = rq at HX HR ⊢
  rename_i hh_
  clear hh_
  rotate_left
  have HE := Lib.hid (show Below w.heap.size w (World.drew (World.alloc (World.alloc wr (.cells #[.int .i64 5, .int .i64 0, .int .i64 0, .string (⟨#[]⟩ : ByteArray), .int .i64 0, .int .i64 0, .int .i64 0, .int .i64 0, .string sy, .slice (some ⟨(wr.heap.size + 1), 0, none⟩) 2 2] 31)) (.cells #[.int .i64 1, .int .i64 2, .int .i64 d, .string (⟨#[]⟩ : ByteArray), .int .i64 0, .int .i64 0, .int .i64 0, .int .i64 0, .string (⟨#[]⟩ : ByteArray), .slice none 0 0, .int .i64 1, .int .i64 2, .int .i64 d, .string (⟨#[]⟩ : ByteArray), .int .i64 0, .int .i64 0, .int .i64 0, .int .i64 0, .string (⟨#[]⟩ : ByteArray), .slice none 0 0] 31))) from Below.drew (below_alloc (below_alloc HBb.out _) _))
  have HS := Lib.hid (show (World.heap (World.drew (World.alloc (World.alloc wr (.cells #[.int .i64 5, .int .i64 0, .int .i64 0, .string (⟨#[]⟩ : ByteArray), .int .i64 0, .int .i64 0, .int .i64 0, .int .i64 0, .string sy, .slice (some ⟨(wr.heap.size + 1), 0, none⟩) 2 2] 31)) (.cells #[.int .i64 1, .int .i64 2, .int .i64 d, .string (⟨#[]⟩ : ByteArray), .int .i64 0, .int .i64 0, .int .i64 0, .int .i64 0, .string (⟨#[]⟩ : ByteArray), .slice none 0 0, .int .i64 1, .int .i64 2, .int .i64 d, .string (⟨#[]⟩ : ByteArray), .int .i64 0, .int .i64 0, .int .i64 0, .int .i64 0, .string (⟨#[]⟩ : ByteArray), .slice none 0 0] 31))))[w.heap.size]? = some ptSO from blk_drew (blk_alloc (blk_alloc HSb.out _) _))
  have HL := Lib.hid (show (World.heap (World.drew (World.alloc (World.alloc wr (.cells #[.int .i64 5, .int .i64 0, .int .i64 0, .string (⟨#[]⟩ : ByteArray), .int .i64 0, .int .i64 0, .int .i64 0, .int .i64 0, .string sy, .slice (some ⟨(wr.heap.size + 1), 0, none⟩) 2 2] 31)) (.cells #[.int .i64 1, .int .i64 2, .int .i64 d, .string (⟨#[]⟩ : ByteArray), .int .i64 0, .int .i64 0, .int .i64 0, .int .i64 0, .string (⟨#[]⟩ : ByteArray), .slice none 0 0, .int .i64 1, .int .i64 2, .int .i64 d, .string (⟨#[]⟩ : ByteArray), .int .i64 0, .int .i64 0, .int .i64 0, .int .i64 0, .string (⟨#[]⟩ : ByteArray), .slice none 0 0] 31))))[w.heap.size + 1]? = some (lfO d) from blk_drew (blk_alloc (blk_alloc HLb.out _) _))
  have HX := Lib.hid (show (World.heap (World.drew (World.alloc (World.alloc wr (.cells #[.int .i64 5, .int .i64 0, .int .i64 0, .string (⟨#[]⟩ : ByteArray), .int .i64 0, .int .i64 0, .int .i64 0, .int .i64 0, .string sy, .slice (some ⟨(wr.heap.size + 1), 0, none⟩) 2 2] 31)) (.cells #[.int .i64 1, .int .i64 2, .int .i64 d, .string (⟨#[]⟩ : ByteArray), .int .i64 0, .int .i64 0, .int .i64 0, .int .i64 0, .string (⟨#[]⟩ : ByteArray), .slice none 0 0, .int .i64 1, .int .i64 2, .int .i64 d, .string (⟨#[]⟩ : ByteArray), .int .i64 0, .int .i64 0, .int .i64 0, .int .i64 0, .string (⟨#[]⟩ : ByteArray), .slice none 0 0] 31))))[wr.heap.size]? = some (inO sy (wr.heap.size + 1)) from blk_drew (blk_alloc (blk_at _ _ _ (by simp)) _))
  have HR := Lib.hid (show Kd.C k31 (World.drew (World.alloc (World.alloc wr (.cells #[.int .i64 5, .int .i64 0, .int .i64 0, .string (⟨#[]⟩ : ByteArray), .int .i64 0, .int .i64 0, .int .i64 0, .int .i64 0, .string sy, .slice (some ⟨(wr.heap.size + 1), 0, none⟩) 2 2] 31)) (.cells #[.int .i64 1, .int .i64 2, .int .i64 d, .string (⟨#[]⟩ : ByteArray), .int .i64 0, .int .i64 0, .int .i64 0, .int .i64 0, .string (⟨#[]⟩ : ByteArray), .slice none 0 0, .int .i64 1, .int .i64 2, .int .i64 d, .string (⟨#[]⟩ : ByteArray), .int .i64 0, .int .i64 0, .int .i64 0, .int .i64 0, .string (⟨#[]⟩ : ByteArray), .slice none 0 0] 31))) (some ⟨wr.heap.size + 1, 0, none⟩) 2 [LF d, LF d] from Kd.C_below (C_ll _ d (wr.heap.size + 1) (by simp)) (Below.drew (Below.refl _ _)))
  generalize (World.drew (World.alloc (World.alloc wr (.cells #[.int .i64 5, .int .i64 0, .int .i64 0, .string (⟨#[]⟩ : ByteArray), .int .i64 0, .int .i64 0, .int .i64 0, .int .i64 0, .string sy, .slice (some ⟨(wr.heap.size + 1), 0, none⟩) 2 2] 31)) (.cells #[.int .i64 1, .int .i64 2, .int .i64 d, .string (⟨#[]⟩ : ByteArray), .int .i64 0, .int .i64 0, .int .i64 0, .int .i64 0, .string (⟨#[]⟩ : ByteArray), .slice none 0 0, .int .i64 1, .int .i64 2, .int .i64 d, .string (⟨#[]⟩ : ByteArray), .int .i64 0, .int .i64 0, .int .i64 0, .int .i64 0, .string (⟨#[]⟩ : ByteArray), .slice none 0 0] 31))) = v at HE HS HL HX HR ⊢
  generalize wr.heap.size + 1 = rq at HX HR ⊢
  generalize wr.heap.size = q at HX HR ⊢
  rename_i hh_
  clear hh_
  rotate_left
  all_goals clear HSb HLb HBb HNA HSZ
  all_goals go_upto_region 5 with fail
  all_goals have KK5 := Lib.hid (sb_of HS.out HSX.out HL.out HX.out)
  all_goals obtain ⟨sg_, l0_, l1_, l2_, l3_, l4_, l5_, l6_, l7_, l8_, l9_, e0_, e1_, e2_, e3_, e4_, e5_, e6_, e7_, e8_, e9_⟩ := KK5.out
  all_goals go_region_held3 (fun w' => w'.cell? ⟨w.heap.size, x, none⟩ = some (.string sx) ∧ w'.cell? ⟨w.heap.size + 1, 0, none⟩ = some (.int .i64 1) ∧ w'.cell? ⟨w.heap.size + 1, 1, none⟩ = some (.int .i64 2) ∧ w'.cell? ⟨w.heap.size + 1, 2, none⟩ = some (.int .i64 d) ∧ w'.cell? ⟨w.heap.size + 1, 3, none⟩ = some (.string (⟨#[]⟩ : ByteArray)) ∧ w'.cell? ⟨w.heap.size + 1, 4, none⟩ = some (.int .i64 0) ∧ w'.cell? ⟨w.heap.size + 1, 5, none⟩ = some (.int .i64 0) ∧ w'.cell? ⟨w.heap.size + 1, 6, none⟩ = some (.int .i64 0) ∧ w'.cell? ⟨w.heap.size + 1, 7, none⟩ = some (.int .i64 0) ∧ w'.cell? ⟨w.heap.size + 1, 8, none⟩ = some (.string (⟨#[]⟩ : ByteArray)) ∧ w'.cell? ⟨w.heap.size + 1, 9, none⟩ = some (.slice none 0 0) ∧ w'.cell? ⟨q, 0, none⟩ = some (.int .i64 5) ∧ w'.cell? ⟨q, 1, none⟩ = some (.int .i64 0) ∧ w'.cell? ⟨q, 2, none⟩ = some (.int .i64 0) ∧ w'.cell? ⟨q, 3, none⟩ = some (.string (⟨#[]⟩ : ByteArray)) ∧ w'.cell? ⟨q, 4, none⟩ = some (.int .i64 0) ∧ w'.cell? ⟨q, 5, none⟩ = some (.int .i64 0) ∧ w'.cell? ⟨q, 6, none⟩ = some (.int .i64 0) ∧ w'.cell? ⟨q, 7, none⟩ = some (.int .i64 0) ∧ w'.cell? ⟨q, 8, none⟩ = some (.string sy) ∧ w'.cell? ⟨q, 9, none⟩ = some (.slice (some ⟨rq, 0, none⟩) 2 2)) (with_reducible repeat (first | exact KK5.out | refine sb_alloc _ ?_ | refine sb_drewN _ ?_ | refine sb_drew ?_ | refine sb_below hb5 ?_)) (first | (go_at_call 5; go_loud (first | ((with_reducible refine (text_two K sx (IN sy d) (LF d) _ _ _ _ ?hC ?sg H1.out).mono ?_)) | (fail "STEP 0")); go_loud (first | ((case hC => first | exact C_il _ d sy rq _ rfl HR.out | exact Kd.C_below (C_il _ d sy rq _ rfl HR.out) (Below.drew (Below.refl _ _)))) | (fail "STEP 1")); go_loud (first | ((case sg => exact gl_4_1 (by with_reducible repeat (first | exact HE.out | refine below_alloc ?_ _ | refine Below.drew ?_ | refine pw_below_drewN ?_ _)) HG.out)) | (fail "STEP 2")); rintro e w5 ⟨rfl, hb5⟩; go_loud (first | (have hc5 : Below v.heap.size v w5 := below_step (by with_reducible repeat (first | exact Below.refl _ _ | refine below_alloc ?_ _ | refine Below.drew ?_ | refine pw_below_drewN ?_ _)) hb5) | (fail "STEP 4")); go_loud (first | (have HE5 := Lib.hid (below_step HE.out hc5)) | (fail "STEP 5")); go_loud (first | (have HS5 := Lib.hid (blk_below HS.out hc5)) | (fail "STEP 6")); go_loud (first | (have HL5 := Lib.hid (blk_below HL.out hc5)) | (fail "STEP 7")); go_loud (first | (have HX5 := Lib.hid (blk_below HX.out hc5)) | (fail "STEP 8")); go_loud (first | (have HR5 := Lib.hid (Kd.C_below HR.out hc5)) | (fail "STEP 9"))))
  all_goals clear sg_ l0_ l1_ l2_ l3_ l4_ l5_ l6_ l7_ l8_ l9_ e0_ e1_ e2_ e3_ e4_ e5_ e6_ e7_ e8_ e9_ KK5
  all_goals go_upto_region 6 with fail
  all_goals have KK6 := Lib.hid (sb_of HS5.out HSX.out HL5.out HX5.out)
  all_goals obtain ⟨sg_, l0_, l1_, l2_, l3_, l4_, l5_, l6_, l7_, l8_, l9_, e0_, e1_, e2_, e3_, e4_, e5_, e6_, e7_, e8_, e9_⟩ := KK6.out
  all_goals go_region_held3 (fun w' => w'.cell? ⟨w.heap.size, x, none⟩ = some (.string sx) ∧ w'.cell? ⟨w.heap.size + 1, 0, none⟩ = some (.int .i64 1) ∧ w'.cell? ⟨w.heap.size + 1, 1, none⟩ = some (.int .i64 2) ∧ w'.cell? ⟨w.heap.size + 1, 2, none⟩ = some (.int .i64 d) ∧ w'.cell? ⟨w.heap.size + 1, 3, none⟩ = some (.string (⟨#[]⟩ : ByteArray)) ∧ w'.cell? ⟨w.heap.size + 1, 4, none⟩ = some (.int .i64 0) ∧ w'.cell? ⟨w.heap.size + 1, 5, none⟩ = some (.int .i64 0) ∧ w'.cell? ⟨w.heap.size + 1, 6, none⟩ = some (.int .i64 0) ∧ w'.cell? ⟨w.heap.size + 1, 7, none⟩ = some (.int .i64 0) ∧ w'.cell? ⟨w.heap.size + 1, 8, none⟩ = some (.string (⟨#[]⟩ : ByteArray)) ∧ w'.cell? ⟨w.heap.size + 1, 9, none⟩ = some (.slice none 0 0) ∧ w'.cell? ⟨q, 0, none⟩ = some (.int .i64 5) ∧ w'.cell? ⟨q, 1, none⟩ = some (.int .i64 0) ∧ w'.cell? ⟨q, 2, none⟩ = some (.int .i64 0) ∧ w'.cell? ⟨q, 3, none⟩ = some (.string (⟨#[]⟩ : ByteArray)) ∧ w'.cell? ⟨q, 4, none⟩ = some (.int .i64 0) ∧ w'.cell? ⟨q, 5, none⟩ = some (.int .i64 0) ∧ w'.cell? ⟨q, 6, none⟩ = some (.int .i64 0) ∧ w'.cell? ⟨q, 7, none⟩ = some (.int .i64 0) ∧ w'.cell? ⟨q, 8, none⟩ = some (.string sy) ∧ w'.cell? ⟨q, 9, none⟩ = some (.slice (some ⟨rq, 0, none⟩) 2 2)) (with_reducible repeat (first | exact KK6.out | refine sb_alloc _ ?_ | refine sb_drewN _ ?_ | refine sb_drew ?_ | refine sb_below hb6 ?_)) (first | (go_at_call 5; go_loud (first | ((with_reducible refine (text_two K sx (LF d) (IN sy d) _ _ _ _ ?hC ?sg H2.out).mono ?_)) | (fail "STEP 0")); go_loud (first | ((case hC => first | exact C_li _ d sy rq _ rfl HR5.out | exact Kd.C_below (C_li _ d sy rq _ rfl HR5.out) (Below.drew (Below.refl _ _)))) | (fail "STEP 1")); go_loud (first | ((case sg => exact gl_4_1 (by with_reducible repeat (first | exact HE5.out | refine below_alloc ?_ _ | refine Below.drew ?_ | refine pw_below_drewN ?_ _)) HG.out)) | (fail "STEP 2")); rintro e w6 ⟨rfl, hb6⟩; go_loud (first | (have hc6 : Below w5.heap.size w5 w6 := below_step (by with_reducible repeat (first | exact Below.refl _ _ | refine below_alloc ?_ _ | refine Below.drew ?_ | refine pw_below_drewN ?_ _)) hb6) | (fail "STEP 4")); go_loud (first | (have HE6 := Lib.hid (below_step HE5.out hc6)) | (fail "STEP 5")); go_loud (first | (have HS6 := Lib.hid (blk_below HS5.out hc6)) | (fail "STEP 6")); go_loud (first | (have HL6 := Lib.hid (blk_below HL5.out hc6)) | (fail "STEP 7")); go_loud (first | (have HX6 := Lib.hid (blk_below HX5.out hc6)) | (fail "STEP 8")); go_loud (first | (have HR6 := Lib.hid (Kd.C_below HR5.out hc6)) | (fail "STEP 9"))))
  all_goals clear sg_ l0_ l1_ l2_ l3_ l4_ l5_ l6_ l7_ l8_ l9_ e0_ e1_ e2_ e3_ e4_ e5_ e6_ e7_ e8_ e9_ KK6
  all_goals go_upto_region 7 with fail
  all_goals obtain ⟨⟨e0_, e1_, e2_, e3_, e4_, e5_, e6_, e7_, e8_, e9_⟩, -⟩ := z10 HX6.out
  all_goals go_upto_region 8 with (first | (go_at_call 5; go_loud (first | ((with_reducible refine (text_one K (IN sy d) _ _ _ _ ?hC ?sg H3.out).mono ?_)) | (fail "STEP 0")); go_loud (first | ((case hC => first | exact C_i _ d sy rq _ rfl HR6.out | exact Kd.C_below (C_i _ d sy rq _ rfl HR6.out) (Below.drew (Below.refl _ _)))) | (fail "STEP 1")); go_loud (first | ((case sg => exact gl_4_1 (by with_reducible repeat (first | exact HE6.out | refine below_alloc ?_ _ | refine Below.drew ?_ | refine pw_below_drewN ?_ _)) HG.out)) | (fail "STEP 2")); rintro e w7 ⟨rfl, hb7⟩; go_loud (first | (have hc7 : Below w6.heap.size w6 w7 := below_step (by with_reducible repeat (first | exact Below.refl _ _ | refine below_alloc ?_ _ | refine Below.drew ?_ | refine pw_below_drewN ?_ _)) hb7) | (fail "STEP 4")); go_loud (first | (have HE7 := Lib.hid (below_step HE6.out hc7)) | (fail "STEP 5")); go_loud (first | (have HS7 := Lib.hid (blk_below HS6.out hc7)) | (fail "STEP 6")); go_loud (first | (have HL7 := Lib.hid (blk_below HL6.out hc7)) | (fail "STEP 7")); go_loud (first | (have HX7 := Lib.hid (blk_below HX6.out hc7)) | (fail "STEP 8")); go_loud (first | (have HR7 := Lib.hid (Kd.C_below HR6.out hc7)) | (fail "STEP 9"))))
  all_goals clear e0_ e1_ e2_ e3_ e4_ e5_ e6_ e7_ e8_ e9_
  all_goals have HZ := Lib.hid (show (ptD d).size = 1 ∧ sx.size = 1 ∧ sy.size = 1 ∧ core.size = 3 ∧ wrap.size = 5 from ⟨hzd, hzx, hzy, by rw [← hcore]; simp only [ByteArray.size_append]; omega, by rw [← hwrap, ← hcore]; simp only [ByteArray.size_append]; rw [hzd, hzy]; rfl⟩)
  all_goals have HCO := Lib.hid hcore
  all_goals have HWR := Lib.hid hwrap
  all_goals clear hcore hwrap hzd hzx hzy
  all_goals have hcv := pt_conv w7 (48 + d)
  all_goals rw [show strOfNums [48 + d] = ptD d from (by unfold ptD; rw [show (48 + d) % 256 = 48 + d by omega])] at hcv
  all_goals have sgy_ := pt_sign HS7.out HSY.out
  all_goals have sgx_ := pt_sign HS7.out HSX.out
  all_goals have hlt7 := blk_lt HS7.out
  all_goals have fa0 : (9223372036854775807 < (ptD d).size + sy.size) = False := eq_false (by have a1_ := HZ.out; have a2_ : (⟨#[40]⟩ : ByteArray).size = 1 := rfl; have a3_ : (⟨#[41]⟩ : ByteArray).size = 1 := rfl; have a4_ : (⟨#[45]⟩ : ByteArray).size = 1 := rfl; omega)
  all_goals have fa1 : ((ptD d).size + sy.size ≤ 9223372036854775807) = True := eq_true (by have a1_ := HZ.out; have a2_ : (⟨#[40]⟩ : ByteArray).size = 1 := rfl; have a3_ : (⟨#[41]⟩ : ByteArray).size = 1 := rfl; have a4_ : (⟨#[45]⟩ : ByteArray).size = 1 := rfl; omega)
  all_goals have fa2 : decide ((ptD d).size + sy.size ≤ 9223372036854775807) = true := decide_eq_true (by have a1_ := HZ.out; have a2_ : (⟨#[40]⟩ : ByteArray).size = 1 := rfl; have a3_ : (⟨#[41]⟩ : ByteArray).size = 1 := rfl; have a4_ : (⟨#[45]⟩ : ByteArray).size = 1 := rfl; omega)
  all_goals have fa3 : (9223372036854775807 < (ptD d).size + sy.size + (ptD d).size) = False := eq_false (by have a1_ := HZ.out; have a2_ : (⟨#[40]⟩ : ByteArray).size = 1 := rfl; have a3_ : (⟨#[41]⟩ : ByteArray).size = 1 := rfl; have a4_ : (⟨#[45]⟩ : ByteArray).size = 1 := rfl; omega)
  all_goals have fa4 : ((ptD d).size + sy.size + (ptD d).size ≤ 9223372036854775807) = True := eq_true (by have a1_ := HZ.out; have a2_ : (⟨#[40]⟩ : ByteArray).size = 1 := rfl; have a3_ : (⟨#[41]⟩ : ByteArray).size = 1 := rfl; have a4_ : (⟨#[45]⟩ : ByteArray).size = 1 := rfl; omega)
  all_goals have fa5 : decide ((ptD d).size + sy.size + (ptD d).size ≤ 9223372036854775807) = true := decide_eq_true (by have a1_ := HZ.out; have a2_ : (⟨#[40]⟩ : ByteArray).size = 1 := rfl; have a3_ : (⟨#[41]⟩ : ByteArray).size = 1 := rfl; have a4_ : (⟨#[45]⟩ : ByteArray).size = 1 := rfl; omega)
  all_goals have fa6 : (9223372036854775807 < ((ptD d ++ sy) : ByteArray).size + (ptD d).size) = False := eq_false (by simp only [ByteArray.size_append]; have a1_ := HZ.out; have a2_ : (⟨#[40]⟩ : ByteArray).size = 1 := rfl; have a3_ : (⟨#[41]⟩ : ByteArray).size = 1 := rfl; have a4_ : (⟨#[45]⟩ : ByteArray).size = 1 := rfl; omega)
  all_goals have fa7 : (((ptD d ++ sy) : ByteArray).size + (ptD d).size ≤ 9223372036854775807) = True := eq_true (by simp only [ByteArray.size_append]; have a1_ := HZ.out; have a2_ : (⟨#[40]⟩ : ByteArray).size = 1 := rfl; have a3_ : (⟨#[41]⟩ : ByteArray).size = 1 := rfl; have a4_ : (⟨#[45]⟩ : ByteArray).size = 1 := rfl; omega)
  all_goals go_upto_region 10 with fail
  all_goals rw [HCO.out]
  all_goals have fb0 : (9223372036854775807 < 1 + core.size) = False := eq_false (by have a1_ := HZ.out; have a2_ : (⟨#[40]⟩ : ByteArray).size = 1 := rfl; have a3_ : (⟨#[41]⟩ : ByteArray).size = 1 := rfl; have a4_ : (⟨#[45]⟩ : ByteArray).size = 1 := rfl; omega)
  all_goals have fb1 : (1 + core.size ≤ 9223372036854775807) = True := eq_true (by have a1_ := HZ.out; have a2_ : (⟨#[40]⟩ : ByteArray).size = 1 := rfl; have a3_ : (⟨#[41]⟩ : ByteArray).size = 1 := rfl; have a4_ : (⟨#[45]⟩ : ByteArray).size = 1 := rfl; omega)
  all_goals have fb2 : decide (1 + core.size ≤ 9223372036854775807) = true := decide_eq_true (by have a1_ := HZ.out; have a2_ : (⟨#[40]⟩ : ByteArray).size = 1 := rfl; have a3_ : (⟨#[41]⟩ : ByteArray).size = 1 := rfl; have a4_ : (⟨#[45]⟩ : ByteArray).size = 1 := rfl; omega)
  all_goals have fb3 : (9223372036854775807 < 1 + core.size + 1) = False := eq_false (by have a1_ := HZ.out; have a2_ : (⟨#[40]⟩ : ByteArray).size = 1 := rfl; have a3_ : (⟨#[41]⟩ : ByteArray).size = 1 := rfl; have a4_ : (⟨#[45]⟩ : ByteArray).size = 1 := rfl; omega)
  all_goals have fb4 : (1 + core.size + 1 ≤ 9223372036854775807) = True := eq_true (by have a1_ := HZ.out; have a2_ : (⟨#[40]⟩ : ByteArray).size = 1 := rfl; have a3_ : (⟨#[41]⟩ : ByteArray).size = 1 := rfl; have a4_ : (⟨#[45]⟩ : ByteArray).size = 1 := rfl; omega)
  all_goals have fb5 : decide (1 + core.size + 1 ≤ 9223372036854775807) = true := decide_eq_true (by have a1_ := HZ.out; have a2_ : (⟨#[40]⟩ : ByteArray).size = 1 := rfl; have a3_ : (⟨#[41]⟩ : ByteArray).size = 1 := rfl; have a4_ : (⟨#[45]⟩ : ByteArray).size = 1 := rfl; omega)
  all_goals have fb6 : (9223372036854775807 < (((⟨#[40]⟩ : ByteArray) ++ core) : ByteArray).size + 1) = False := eq_false (by simp only [ByteArray.size_append]; have a1_ := HZ.out; have a2_ : (⟨#[40]⟩ : ByteArray).size = 1 := rfl; have a3_ : (⟨#[41]⟩ : ByteArray).size = 1 := rfl; have a4_ : (⟨#[45]⟩ : ByteArray).size = 1 := rfl; omega)
  all_goals have fb7 : ((((⟨#[40]⟩ : ByteArray) ++ core) : ByteArray).size + 1 ≤ 9223372036854775807) = True := eq_true (by simp only [ByteArray.size_append]; have a1_ := HZ.out; have a2_ : (⟨#[40]⟩ : ByteArray).size = 1 := rfl; have a3_ : (⟨#[41]⟩ : ByteArray).size = 1 := rfl; have a4_ : (⟨#[45]⟩ : ByteArray).size = 1 := rfl; omega)
  all_goals go_upto_region 11 with fail
  all_goals rw [HWR.out]
  all_goals have fc0 : (9223372036854775807 < core.size + sx.size) = False := eq_false (by have a1_ := HZ.out; have a2_ : (⟨#[40]⟩ : ByteArray).size = 1 := rfl; have a3_ : (⟨#[41]⟩ : ByteArray).size = 1 := rfl; have a4_ : (⟨#[45]⟩ : ByteArray).size = 1 := rfl; omega)
  all_goals have fc1 : (core.size + sx.size ≤ 9223372036854775807) = True := eq_true (by have a1_ := HZ.out; have a2_ : (⟨#[40]⟩ : ByteArray).size = 1 := rfl; have a3_ : (⟨#[41]⟩ : ByteArray).size = 1 := rfl; have a4_ : (⟨#[45]⟩ : ByteArray).size = 1 := rfl; omega)
  all_goals have fc2 : decide (core.size + sx.size ≤ 9223372036854775807) = true := decide_eq_true (by have a1_ := HZ.out; have a2_ : (⟨#[40]⟩ : ByteArray).size = 1 := rfl; have a3_ : (⟨#[41]⟩ : ByteArray).size = 1 := rfl; have a4_ : (⟨#[45]⟩ : ByteArray).size = 1 := rfl; omega)
  all_goals have fc3 : (9223372036854775807 < core.size + sx.size + (ptD d).size) = False := eq_false (by have a1_ := HZ.out; have a2_ : (⟨#[40]⟩ : ByteArray).size = 1 := rfl; have a3_ : (⟨#[41]⟩ : ByteArray).size = 1 := rfl; have a4_ : (⟨#[45]⟩ : ByteArray).size = 1 := rfl; omega)
  all_goals have fc4 : (core.size + sx.size + (ptD d).size ≤ 9223372036854775807) = True := eq_true (by have a1_ := HZ.out; have a2_ : (⟨#[40]⟩ : ByteArray).size = 1 := rfl; have a3_ : (⟨#[41]⟩ : ByteArray).size = 1 := rfl; have a4_ : (⟨#[45]⟩ : ByteArray).size = 1 := rfl; omega)
  all_goals have fc5 : decide (core.size + sx.size + (ptD d).size ≤ 9223372036854775807) = true := decide_eq_true (by have a1_ := HZ.out; have a2_ : (⟨#[40]⟩ : ByteArray).size = 1 := rfl; have a3_ : (⟨#[41]⟩ : ByteArray).size = 1 := rfl; have a4_ : (⟨#[45]⟩ : ByteArray).size = 1 := rfl; omega)
  all_goals have fc6 : (9223372036854775807 < ((core ++ sx) : ByteArray).size + (ptD d).size) = False := eq_false (by simp only [ByteArray.size_append]; have a1_ := HZ.out; have a2_ : (⟨#[40]⟩ : ByteArray).size = 1 := rfl; have a3_ : (⟨#[41]⟩ : ByteArray).size = 1 := rfl; have a4_ : (⟨#[45]⟩ : ByteArray).size = 1 := rfl; omega)
  all_goals have fc7 : (((core ++ sx) : ByteArray).size + (ptD d).size ≤ 9223372036854775807) = True := eq_true (by simp only [ByteArray.size_append]; have a1_ := HZ.out; have a2_ : (⟨#[40]⟩ : ByteArray).size = 1 := rfl; have a3_ : (⟨#[41]⟩ : ByteArray).size = 1 := rfl; have a4_ : (⟨#[45]⟩ : ByteArray).size = 1 := rfl; omega)
  all_goals have fd0 : (9223372036854775807 < wrap.size + sx.size) = False := eq_false (by have a1_ := HZ.out; have a2_ : (⟨#[40]⟩ : ByteArray).size = 1 := rfl; have a3_ : (⟨#[41]⟩ : ByteArray).size = 1 := rfl; have a4_ : (⟨#[45]⟩ : ByteArray).size = 1 := rfl; omega)
  all_goals have fd1 : (wrap.size + sx.size ≤ 9223372036854775807) = True := eq_true (by have a1_ := HZ.out; have a2_ : (⟨#[40]⟩ : ByteArray).size = 1 := rfl; have a3_ : (⟨#[41]⟩ : ByteArray).size = 1 := rfl; have a4_ : (⟨#[45]⟩ : ByteArray).size = 1 := rfl; omega)
  all_goals have fd2 : decide (wrap.size + sx.size ≤ 9223372036854775807) = true := decide_eq_true (by have a1_ := HZ.out; have a2_ : (⟨#[40]⟩ : ByteArray).size = 1 := rfl; have a3_ : (⟨#[41]⟩ : ByteArray).size = 1 := rfl; have a4_ : (⟨#[45]⟩ : ByteArray).size = 1 := rfl; omega)
  all_goals have fd3 : (9223372036854775807 < wrap.size + sx.size + (ptD d).size) = False := eq_false (by have a1_ := HZ.out; have a2_ : (⟨#[40]⟩ : ByteArray).size = 1 := rfl; have a3_ : (⟨#[41]⟩ : ByteArray).size = 1 := rfl; have a4_ : (⟨#[45]⟩ : ByteArray).size = 1 := rfl; omega)
  all_goals have fd4 : (wrap.size + sx.size + (ptD d).size ≤ 9223372036854775807) = True := eq_true (by have a1_ := HZ.out; have a2_ : (⟨#[40]⟩ : ByteArray).size = 1 := rfl; have a3_ : (⟨#[41]⟩ : ByteArray).size = 1 := rfl; have a4_ : (⟨#[45]⟩ : ByteArray).size = 1 := rfl; omega)
  all_goals have fd5 : decide (wrap.size + sx.size + (ptD d).size ≤ 9223372036854775807) = true := decide_eq_true (by have a1_ := HZ.out; have a2_ : (⟨#[40]⟩ : ByteArray).size = 1 := rfl; have a3_ : (⟨#[41]⟩ : ByteArray).size = 1 := rfl; have a4_ : (⟨#[45]⟩ : ByteArray).size = 1 := rfl; omega)
  all_goals have fd6 : (9223372036854775807 < ((wrap ++ sx) : ByteArray).size + (ptD d).size) = False := eq_false (by simp only [ByteArray.size_append]; have a1_ := HZ.out; have a2_ : (⟨#[40]⟩ : ByteArray).size = 1 := rfl; have a3_ : (⟨#[41]⟩ : ByteArray).size = 1 := rfl; have a4_ : (⟨#[45]⟩ : ByteArray).size = 1 := rfl; omega)
  all_goals have fd7 : (((wrap ++ sx) : ByteArray).size + (ptD d).size ≤ 9223372036854775807) = True := eq_true (by simp only [ByteArray.size_append]; have a1_ := HZ.out; have a2_ : (⟨#[40]⟩ : ByteArray).size = 1 := rfl; have a3_ : (⟨#[41]⟩ : ByteArray).size = 1 := rfl; have a4_ : (⟨#[45]⟩ : ByteArray).size = 1 := rfl; omega)
  all_goals have fe0 : (9223372036854775807 < (ptD d).size + sx.size) = False := eq_false (by have a1_ := HZ.out; have a2_ : (⟨#[40]⟩ : ByteArray).size = 1 := rfl; have a3_ : (⟨#[41]⟩ : ByteArray).size = 1 := rfl; have a4_ : (⟨#[45]⟩ : ByteArray).size = 1 := rfl; omega)
  all_goals have fe1 : ((ptD d).size + sx.size ≤ 9223372036854775807) = True := eq_true (by have a1_ := HZ.out; have a2_ : (⟨#[40]⟩ : ByteArray).size = 1 := rfl; have a3_ : (⟨#[41]⟩ : ByteArray).size = 1 := rfl; have a4_ : (⟨#[45]⟩ : ByteArray).size = 1 := rfl; omega)
  all_goals have fe2 : decide ((ptD d).size + sx.size ≤ 9223372036854775807) = true := decide_eq_true (by have a1_ := HZ.out; have a2_ : (⟨#[40]⟩ : ByteArray).size = 1 := rfl; have a3_ : (⟨#[41]⟩ : ByteArray).size = 1 := rfl; have a4_ : (⟨#[45]⟩ : ByteArray).size = 1 := rfl; omega)
  all_goals have fe3 : (9223372036854775807 < (ptD d).size + sx.size + core.size) = False := eq_false (by have a1_ := HZ.out; have a2_ : (⟨#[40]⟩ : ByteArray).size = 1 := rfl; have a3_ : (⟨#[41]⟩ : ByteArray).size = 1 := rfl; have a4_ : (⟨#[45]⟩ : ByteArray).size = 1 := rfl; omega)
  all_goals have fe4 : ((ptD d).size + sx.size + core.size ≤ 9223372036854775807) = True := eq_true (by have a1_ := HZ.out; have a2_ : (⟨#[40]⟩ : ByteArray).size = 1 := rfl; have a3_ : (⟨#[41]⟩ : ByteArray).size = 1 := rfl; have a4_ : (⟨#[45]⟩ : ByteArray).size = 1 := rfl; omega)
  all_goals have fe5 : decide ((ptD d).size + sx.size + core.size ≤ 9223372036854775807) = true := decide_eq_true (by have a1_ := HZ.out; have a2_ : (⟨#[40]⟩ : ByteArray).size = 1 := rfl; have a3_ : (⟨#[41]⟩ : ByteArray).size = 1 := rfl; have a4_ : (⟨#[45]⟩ : ByteArray).size = 1 := rfl; omega)
  all_goals have fe6 : (9223372036854775807 < ((ptD d ++ sx) : ByteArray).size + core.size) = False := eq_false (by simp only [ByteArray.size_append]; have a1_ := HZ.out; have a2_ : (⟨#[40]⟩ : ByteArray).size = 1 := rfl; have a3_ : (⟨#[41]⟩ : ByteArray).size = 1 := rfl; have a4_ : (⟨#[45]⟩ : ByteArray).size = 1 := rfl; omega)
  all_goals have fe7 : (((ptD d ++ sx) : ByteArray).size + core.size ≤ 9223372036854775807) = True := eq_true (by simp only [ByteArray.size_append]; have a1_ := HZ.out; have a2_ : (⟨#[40]⟩ : ByteArray).size = 1 := rfl; have a3_ : (⟨#[41]⟩ : ByteArray).size = 1 := rfl; have a4_ : (⟨#[45]⟩ : ByteArray).size = 1 := rfl; omega)
  all_goals have ff0 : (9223372036854775807 < (ptD d).size + sx.size) = False := eq_false (by have a1_ := HZ.out; have a2_ : (⟨#[40]⟩ : ByteArray).size = 1 := rfl; have a3_ : (⟨#[41]⟩ : ByteArray).size = 1 := rfl; have a4_ : (⟨#[45]⟩ : ByteArray).size = 1 := rfl; omega)
  all_goals have ff1 : ((ptD d).size + sx.size ≤ 9223372036854775807) = True := eq_true (by have a1_ := HZ.out; have a2_ : (⟨#[40]⟩ : ByteArray).size = 1 := rfl; have a3_ : (⟨#[41]⟩ : ByteArray).size = 1 := rfl; have a4_ : (⟨#[45]⟩ : ByteArray).size = 1 := rfl; omega)
  all_goals have ff2 : decide ((ptD d).size + sx.size ≤ 9223372036854775807) = true := decide_eq_true (by have a1_ := HZ.out; have a2_ : (⟨#[40]⟩ : ByteArray).size = 1 := rfl; have a3_ : (⟨#[41]⟩ : ByteArray).size = 1 := rfl; have a4_ : (⟨#[45]⟩ : ByteArray).size = 1 := rfl; omega)
  all_goals have ff3 : (9223372036854775807 < (ptD d).size + sx.size + wrap.size) = False := eq_false (by have a1_ := HZ.out; have a2_ : (⟨#[40]⟩ : ByteArray).size = 1 := rfl; have a3_ : (⟨#[41]⟩ : ByteArray).size = 1 := rfl; have a4_ : (⟨#[45]⟩ : ByteArray).size = 1 := rfl; omega)
  all_goals have ff4 : ((ptD d).size + sx.size + wrap.size ≤ 9223372036854775807) = True := eq_true (by have a1_ := HZ.out; have a2_ : (⟨#[40]⟩ : ByteArray).size = 1 := rfl; have a3_ : (⟨#[41]⟩ : ByteArray).size = 1 := rfl; have a4_ : (⟨#[45]⟩ : ByteArray).size = 1 := rfl; omega)
  all_goals have ff5 : decide ((ptD d).size + sx.size + wrap.size ≤ 9223372036854775807) = true := decide_eq_true (by have a1_ := HZ.out; have a2_ : (⟨#[40]⟩ : ByteArray).size = 1 := rfl; have a3_ : (⟨#[41]⟩ : ByteArray).size = 1 := rfl; have a4_ : (⟨#[45]⟩ : ByteArray).size = 1 := rfl; omega)
  all_goals have ff6 : (9223372036854775807 < ((ptD d ++ sx) : ByteArray).size + wrap.size) = False := eq_false (by simp only [ByteArray.size_append]; have a1_ := HZ.out; have a2_ : (⟨#[40]⟩ : ByteArray).size = 1 := rfl; have a3_ : (⟨#[41]⟩ : ByteArray).size = 1 := rfl; have a4_ : (⟨#[45]⟩ : ByteArray).size = 1 := rfl; omega)
  all_goals have ff7 : (((ptD d ++ sx) : ByteArray).size + wrap.size ≤ 9223372036854775807) = True := eq_true (by simp only [ByteArray.size_append]; have a1_ := HZ.out; have a2_ : (⟨#[40]⟩ : ByteArray).size = 1 := rfl; have a3_ : (⟨#[41]⟩ : ByteArray).size = 1 := rfl; have a4_ : (⟨#[45]⟩ : ByteArray).size = 1 := rfl; omega)
  all_goals have fg0 : (9223372036854775807 < 1 + wrap.size) = False := eq_false (by have a1_ := HZ.out; have a2_ : (⟨#[40]⟩ : ByteArray).size = 1 := rfl; have a3_ : (⟨#[41]⟩ : ByteArray).size = 1 := rfl; have a4_ : (⟨#[45]⟩ : ByteArray).size = 1 := rfl; omega)
  all_goals have fg1 : (1 + wrap.size ≤ 9223372036854775807) = True := eq_true (by have a1_ := HZ.out; have a2_ : (⟨#[40]⟩ : ByteArray).size = 1 := rfl; have a3_ : (⟨#[41]⟩ : ByteArray).size = 1 := rfl; have a4_ : (⟨#[45]⟩ : ByteArray).size = 1 := rfl; omega)
  all_goals have fg2 : decide (1 + wrap.size ≤ 9223372036854775807) = true := decide_eq_true (by have a1_ := HZ.out; have a2_ : (⟨#[40]⟩ : ByteArray).size = 1 := rfl; have a3_ : (⟨#[41]⟩ : ByteArray).size = 1 := rfl; have a4_ : (⟨#[45]⟩ : ByteArray).size = 1 := rfl; omega)
  all_goals go_upto_region 12 with fail
  all_goals clear hx hy hd hd9 hw0 hw1 hwd hcv hu31 hu24 hu22
  all_goals rcases HC.out with ⟨hq, e1, e2⟩ | ⟨hq, hq1 | hq1, e1, e2⟩ | ⟨hq, hq1, e1, e2⟩ | ⟨hq, hq1, e1, e2⟩ | ⟨hq, e1, e2⟩
  · have qg0 : decide ((x : Int) < (y : Int)) = true := decide_eq_true (by omega)
    have qg1 : ((x : Int) < (y : Int)) = True := eq_true (by omega)
    clear hq
    clear HC
    subst e1
    try subst e2
    go_wp2_with (first | (go_at_call 6; (with_reducible refine (pannierlaw06_wakes.calls 1000 _ _ ?sg HW.out).mono ?_); (case sg => exact gl_4_4 (by with_reducible repeat (first | exact HE7.out | refine below_alloc ?_ _ | refine Below.drew ?_ | refine pw_below_drewN ?_ _)) HG.out); rintro e w9 ⟨rfl, hb9⟩))
    go_ret
    exact ⟨rfl, below_step (by with_reducible repeat (first | exact HE7.out | refine below_alloc ?_ _ | refine Below.drew ?_ | refine pw_below_drewN ?_ _)) hb9⟩
  · have qg0 : decide ((x : Int) < (y : Int)) = false := decide_eq_false (by omega)
    have qg1 : ((x : Int) < (y : Int)) = False := eq_false (by omega)
    have qe0 : ((y : Int) == (x : Int)) = true := beq_iff_eq.2 (by omega)
    have qe1 : decide ((y : Int) = (x : Int)) = true := decide_eq_true (by omega)
    have qe2 : ((y : Int) = (x : Int)) = True := eq_true (by omega)
    have qx10 : ((x : Int) == 1) = true := beq_iff_eq.2 (by omega)
    have qx11 : decide ((x : Int) = 1) = true := decide_eq_true (by omega)
    have qx12 : ((x : Int) = 1) = True := eq_true (by omega)
    have qx20 : ((x : Int) == 2) = false := beq_eq_false_iff_ne.2 (by omega)
    have qx21 : decide ((x : Int) = 2) = false := decide_eq_false (by omega)
    have qx22 : ((x : Int) = 2) = False := eq_false (by omega)
    have qx30 : ((x : Int) == 3) = false := beq_eq_false_iff_ne.2 (by omega)
    have qx31 : decide ((x : Int) = 3) = false := decide_eq_false (by omega)
    have qx32 : ((x : Int) = 3) = False := eq_false (by omega)
    clear hq hq1
    clear HC
    subst e1
    try subst e2
    go_wp2_with (first | (go_at_call 6; (with_reducible refine (pannierlaw06_wakes.calls 1000 _ _ ?sg HW.out).mono ?_); (case sg => exact gl_4_4 (by with_reducible repeat (first | exact HE7.out | refine below_alloc ?_ _ | refine Below.drew ?_ | refine pw_below_drewN ?_ _)) HG.out); rintro e w9 ⟨rfl, hb9⟩))
    go_ret
    exact ⟨rfl, below_step (by with_reducible repeat (first | exact HE7.out | refine below_alloc ?_ _ | refine Below.drew ?_ | refine pw_below_drewN ?_ _)) hb9⟩
  · have qg0 : decide ((x : Int) < (y : Int)) = false := decide_eq_false (by omega)
    have qg1 : ((x : Int) < (y : Int)) = False := eq_false (by omega)
    have qe0 : ((y : Int) == (x : Int)) = true := beq_iff_eq.2 (by omega)
    have qe1 : decide ((y : Int) = (x : Int)) = true := decide_eq_true (by omega)
    have qe2 : ((y : Int) = (x : Int)) = True := eq_true (by omega)
    have qx10 : ((x : Int) == 1) = false := beq_eq_false_iff_ne.2 (by omega)
    have qx11 : decide ((x : Int) = 1) = false := decide_eq_false (by omega)
    have qx12 : ((x : Int) = 1) = False := eq_false (by omega)
    have qx20 : ((x : Int) == 2) = true := beq_iff_eq.2 (by omega)
    have qx21 : decide ((x : Int) = 2) = true := decide_eq_true (by omega)
    have qx22 : ((x : Int) = 2) = True := eq_true (by omega)
    have qx30 : ((x : Int) == 3) = false := beq_eq_false_iff_ne.2 (by omega)
    have qx31 : decide ((x : Int) = 3) = false := decide_eq_false (by omega)
    have qx32 : ((x : Int) = 3) = False := eq_false (by omega)
    clear hq hq1
    clear HC
    subst e1
    try subst e2
    go_wp2_with (first | (go_at_call 6; (with_reducible refine (pannierlaw06_wakes.calls 1000 _ _ ?sg HW.out).mono ?_); (case sg => exact gl_4_4 (by with_reducible repeat (first | exact HE7.out | refine below_alloc ?_ _ | refine Below.drew ?_ | refine pw_below_drewN ?_ _)) HG.out); rintro e w9 ⟨rfl, hb9⟩))
    go_ret
    exact ⟨rfl, below_step (by with_reducible repeat (first | exact HE7.out | refine below_alloc ?_ _ | refine Below.drew ?_ | refine pw_below_drewN ?_ _)) hb9⟩
  · have qg0 : decide ((x : Int) < (y : Int)) = false := decide_eq_false (by omega)
    have qg1 : ((x : Int) < (y : Int)) = False := eq_false (by omega)
    have qe0 : ((y : Int) == (x : Int)) = true := beq_iff_eq.2 (by omega)
    have qe1 : decide ((y : Int) = (x : Int)) = true := decide_eq_true (by omega)
    have qe2 : ((y : Int) = (x : Int)) = True := eq_true (by omega)
    have qx10 : ((x : Int) == 1) = false := beq_eq_false_iff_ne.2 (by omega)
    have qx11 : decide ((x : Int) = 1) = false := decide_eq_false (by omega)
    have qx12 : ((x : Int) = 1) = False := eq_false (by omega)
    have qx20 : ((x : Int) == 2) = false := beq_eq_false_iff_ne.2 (by omega)
    have qx21 : decide ((x : Int) = 2) = false := decide_eq_false (by omega)
    have qx22 : ((x : Int) = 2) = False := eq_false (by omega)
    have qx30 : ((x : Int) == 3) = true := beq_iff_eq.2 (by omega)
    have qx31 : decide ((x : Int) = 3) = true := decide_eq_true (by omega)
    have qx32 : ((x : Int) = 3) = True := eq_true (by omega)
    clear hq hq1
    clear HC
    subst e1
    try subst e2
    go_wp2_with (first | (go_at_call 6; (with_reducible refine (pannierlaw06_wakes.calls 1000 _ _ ?sg HW.out).mono ?_); (case sg => exact gl_4_4 (by with_reducible repeat (first | exact HE7.out | refine below_alloc ?_ _ | refine Below.drew ?_ | refine pw_below_drewN ?_ _)) HG.out); rintro e w9 ⟨rfl, hb9⟩))
    go_ret
    exact ⟨rfl, below_step (by with_reducible repeat (first | exact HE7.out | refine below_alloc ?_ _ | refine Below.drew ?_ | refine pw_below_drewN ?_ _)) hb9⟩
  · have qg0 : decide ((x : Int) < (y : Int)) = false := decide_eq_false (by omega)
    have qg1 : ((x : Int) < (y : Int)) = False := eq_false (by omega)
    have qe0 : ((y : Int) == (x : Int)) = true := beq_iff_eq.2 (by omega)
    have qe1 : decide ((y : Int) = (x : Int)) = true := decide_eq_true (by omega)
    have qe2 : ((y : Int) = (x : Int)) = True := eq_true (by omega)
    have qx10 : ((x : Int) == 1) = false := beq_eq_false_iff_ne.2 (by omega)
    have qx11 : decide ((x : Int) = 1) = false := decide_eq_false (by omega)
    have qx12 : ((x : Int) = 1) = False := eq_false (by omega)
    have qx20 : ((x : Int) == 2) = false := beq_eq_false_iff_ne.2 (by omega)
    have qx21 : decide ((x : Int) = 2) = false := decide_eq_false (by omega)
    have qx22 : ((x : Int) = 2) = False := eq_false (by omega)
    have qx30 : ((x : Int) == 3) = false := beq_eq_false_iff_ne.2 (by omega)
    have qx31 : decide ((x : Int) = 3) = false := decide_eq_false (by omega)
    have qx32 : ((x : Int) = 3) = False := eq_false (by omega)
    clear hq hq1
    clear HC
    subst e1
    try subst e2
    go_wp2_with (first | (go_at_call 6; (with_reducible refine (pannierlaw06_wakes.calls 1000 _ _ ?sg HW.out).mono ?_); (case sg => exact gl_4_4 (by with_reducible repeat (first | exact HE7.out | refine below_alloc ?_ _ | refine Below.drew ?_ | refine pw_below_drewN ?_ _)) HG.out); rintro e w9 ⟨rfl, hb9⟩))
    go_ret
    exact ⟨rfl, below_step (by with_reducible repeat (first | exact HE7.out | refine below_alloc ?_ _ | refine Below.drew ?_ | refine pw_below_drewN ?_ _)) hb9⟩
  · have qg0 : decide ((x : Int) < (y : Int)) = false := decide_eq_false (by omega)
    have qg1 : ((x : Int) < (y : Int)) = False := eq_false (by omega)
    have qe0 : ((y : Int) == (x : Int)) = false := beq_eq_false_iff_ne.2 (by omega)
    have qe1 : decide ((y : Int) = (x : Int)) = false := decide_eq_false (by omega)
    have qe2 : ((y : Int) = (x : Int)) = False := eq_false (by omega)
    clear hq
    clear HC
    subst e1
    try subst e2
    go_wp2_with (first | (go_at_call 6; (with_reducible refine (pannierlaw06_wakes.calls 1000 _ _ ?sg HW.out).mono ?_); (case sg => exact gl_4_4 (by with_reducible repeat (first | exact HE7.out | refine below_alloc ?_ _ | refine Below.drew ?_ | refine pw_below_drewN ?_ _)) HG.out); rintro e w9 ⟨rfl, hb9⟩))
    go_ret
    exact ⟨rfl, below_step (by with_reducible repeat (first | exact HE7.out | refine below_alloc ?_ _ | refine Below.drew ?_ | refine pw_below_drewN ?_ _)) hb9⟩
  · have qg0 : decide ((x : Int) < (y : Int)) = true := decide_eq_true (by omega)
    have qg1 : ((x : Int) < (y : Int)) = True := eq_true (by omega)
    clear hq
    clear HC
    subst e1
    try subst e2
    go_wp2_with (first | (go_at_call 6; (with_reducible refine (pannierlaw06_wakes.calls 1000 _ _ ?sg HW.out).mono ?_); (case sg => exact gl_4_4 (by with_reducible repeat (first | exact HE7.out | refine below_alloc ?_ _ | refine Below.drew ?_ | refine pw_below_drewN ?_ _)) HG.out); rintro e w9 ⟨rfl, hb9⟩))
    go_ret
    exact ⟨rfl, below_step (by with_reducible repeat (first | exact HE7.out | refine below_alloc ?_ _ | refine Below.drew ?_ | refine pw_below_drewN ?_ _)) hb9⟩
  · have qg0 : decide ((x : Int) < (y : Int)) = false := decide_eq_false (by omega)
    have qg1 : ((x : Int) < (y : Int)) = False := eq_false (by omega)
    have qe0 : ((y : Int) == (x : Int)) = true := beq_iff_eq.2 (by omega)
    have qe1 : decide ((y : Int) = (x : Int)) = true := decide_eq_true (by omega)
    have qe2 : ((y : Int) = (x : Int)) = True := eq_true (by omega)
    have qx10 : ((x : Int) == 1) = true := beq_iff_eq.2 (by omega)
    have qx11 : decide ((x : Int) = 1) = true := decide_eq_true (by omega)
    have qx12 : ((x : Int) = 1) = True := eq_true (by omega)
    have qx20 : ((x : Int) == 2) = false := beq_eq_false_iff_ne.2 (by omega)
    have qx21 : decide ((x : Int) = 2) = false := decide_eq_false (by omega)
    have qx22 : ((x : Int) = 2) = False := eq_false (by omega)
    have qx30 : ((x : Int) == 3) = false := beq_eq_false_iff_ne.2 (by omega)
    have qx31 : decide ((x : Int) = 3) = false := decide_eq_false (by omega)
    have qx32 : ((x : Int) = 3) = False := eq_false (by omega)
    clear hq hq1
    clear HC
    subst e1
    try subst e2
    go_wp2_with (first | (go_at_call 6; (with_reducible refine (pannierlaw06_wakes.calls 1000 _ _ ?sg HW.out).mono ?_); (case sg => exact gl_4_4 (by with_reducible repeat (first | exact HE7.out | refine below_alloc ?_ _ | refine Below.drew ?_ | refine pw_below_drewN ?_ _)) HG.out); rintro e w9 ⟨rfl, hb9⟩))
    go_ret
    exact ⟨rfl, below_step (by with_reducible repeat (first | exact HE7.out | refine below_alloc ?_ _ | refine Below.drew ?_ | refine pw_below_drewN ?_ _)) hb9⟩
  · have qg0 : decide ((x : Int) < (y : Int)) = false := decide_eq_false (by omega)
    have qg1 : ((x : Int) < (y : Int)) = False := eq_false (by omega)
    have qe0 : ((y : Int) == (x : Int)) = true := beq_iff_eq.2 (by omega)
    have qe1 : decide ((y : Int) = (x : Int)) = true := decide_eq_true (by omega)
    have qe2 : ((y : Int) = (x : Int)) = True := eq_true (by omega)
    have qx10 : ((x : Int) == 1) = false := beq_eq_false_iff_ne.2 (by omega)
    have qx11 : decide ((x : Int) = 1) = false := decide_eq_false (by omega)
    have qx12 : ((x : Int) = 1) = False := eq_false (by omega)
    have qx20 : ((x : Int) == 2) = true := beq_iff_eq.2 (by omega)
    have qx21 : decide ((x : Int) = 2) = true := decide_eq_true (by omega)
    have qx22 : ((x : Int) = 2) = True := eq_true (by omega)
    have qx30 : ((x : Int) == 3) = false := beq_eq_false_iff_ne.2 (by omega)
    have qx31 : decide ((x : Int) = 3) = false := decide_eq_false (by omega)
    have qx32 : ((x : Int) = 3) = False := eq_false (by omega)
    clear hq hq1
    clear HC
    subst e1
    try subst e2
    go_wp2_with (first | (go_at_call 6; (with_reducible refine (pannierlaw06_wakes.calls 1000 _ _ ?sg HW.out).mono ?_); (case sg => exact gl_4_4 (by with_reducible repeat (first | exact HE7.out | refine below_alloc ?_ _ | refine Below.drew ?_ | refine pw_below_drewN ?_ _)) HG.out); rintro e w9 ⟨rfl, hb9⟩))
    go_ret
    exact ⟨rfl, below_step (by with_reducible repeat (first | exact HE7.out | refine below_alloc ?_ _ | refine Below.drew ?_ | refine pw_below_drewN ?_ _)) hb9⟩
  · have qg0 : decide ((x : Int) < (y : Int)) = false := decide_eq_false (by omega)
    have qg1 : ((x : Int) < (y : Int)) = False := eq_false (by omega)
    have qe0 : ((y : Int) == (x : Int)) = true := beq_iff_eq.2 (by omega)
    have qe1 : decide ((y : Int) = (x : Int)) = true := decide_eq_true (by omega)
    have qe2 : ((y : Int) = (x : Int)) = True := eq_true (by omega)
    have qx10 : ((x : Int) == 1) = false := beq_eq_false_iff_ne.2 (by omega)
    have qx11 : decide ((x : Int) = 1) = false := decide_eq_false (by omega)
    have qx12 : ((x : Int) = 1) = False := eq_false (by omega)
    have qx20 : ((x : Int) == 2) = false := beq_eq_false_iff_ne.2 (by omega)
    have qx21 : decide ((x : Int) = 2) = false := decide_eq_false (by omega)
    have qx22 : ((x : Int) = 2) = False := eq_false (by omega)
    have qx30 : ((x : Int) == 3) = true := beq_iff_eq.2 (by omega)
    have qx31 : decide ((x : Int) = 3) = true := decide_eq_true (by omega)
    have qx32 : ((x : Int) = 3) = True := eq_true (by omega)
    clear hq hq1
    clear HC
    subst e1
    try subst e2
    go_wp2_with (first | (go_at_call 6; (with_reducible refine (pannierlaw06_wakes.calls 1000 _ _ ?sg HW.out).mono ?_); (case sg => exact gl_4_4 (by with_reducible repeat (first | exact HE7.out | refine below_alloc ?_ _ | refine Below.drew ?_ | refine pw_below_drewN ?_ _)) HG.out); rintro e w9 ⟨rfl, hb9⟩))
    go_ret
    exact ⟨rfl, below_step (by with_reducible repeat (first | exact HE7.out | refine below_alloc ?_ _ | refine Below.drew ?_ | refine pw_below_drewN ?_ _)) hb9⟩
  · have qg0 : decide ((x : Int) < (y : Int)) = false := decide_eq_false (by omega)
    have qg1 : ((x : Int) < (y : Int)) = False := eq_false (by omega)
    have qe0 : ((y : Int) == (x : Int)) = true := beq_iff_eq.2 (by omega)
    have qe1 : decide ((y : Int) = (x : Int)) = true := decide_eq_true (by omega)
    have qe2 : ((y : Int) = (x : Int)) = True := eq_true (by omega)
    have qx10 : ((x : Int) == 1) = false := beq_eq_false_iff_ne.2 (by omega)
    have qx11 : decide ((x : Int) = 1) = false := decide_eq_false (by omega)
    have qx12 : ((x : Int) = 1) = False := eq_false (by omega)
    have qx20 : ((x : Int) == 2) = false := beq_eq_false_iff_ne.2 (by omega)
    have qx21 : decide ((x : Int) = 2) = false := decide_eq_false (by omega)
    have qx22 : ((x : Int) = 2) = False := eq_false (by omega)
    have qx30 : ((x : Int) == 3) = false := beq_eq_false_iff_ne.2 (by omega)
    have qx31 : decide ((x : Int) = 3) = false := decide_eq_false (by omega)
    have qx32 : ((x : Int) = 3) = False := eq_false (by omega)
    clear hq hq1
    clear HC
    subst e1
    try subst e2
    go_wp2_with (first | (go_at_call 6; (with_reducible refine (pannierlaw06_wakes.calls 1000 _ _ ?sg HW.out).mono ?_); (case sg => exact gl_4_4 (by with_reducible repeat (first | exact HE7.out | refine below_alloc ?_ _ | refine Below.drew ?_ | refine pw_below_drewN ?_ _)) HG.out); rintro e w9 ⟨rfl, hb9⟩))
    go_ret
    exact ⟨rfl, below_step (by with_reducible repeat (first | exact HE7.out | refine below_alloc ?_ _ | refine Below.drew ?_ | refine pw_below_drewN ?_ _)) hb9⟩
  · have qg0 : decide ((x : Int) < (y : Int)) = false := decide_eq_false (by omega)
    have qg1 : ((x : Int) < (y : Int)) = False := eq_false (by omega)
    have qe0 : ((y : Int) == (x : Int)) = false := beq_eq_false_iff_ne.2 (by omega)
    have qe1 : decide ((y : Int) = (x : Int)) = false := decide_eq_false (by omega)
    have qe2 : ((y : Int) = (x : Int)) = False := eq_false (by omega)
    clear hq
    clear HC
    subst e1
    try subst e2
    go_wp2_with (first | (go_at_call 6; (with_reducible refine (pannierlaw06_wakes.calls 1000 _ _ ?sg HW.out).mono ?_); (case sg => exact gl_4_4 (by with_reducible repeat (first | exact HE7.out | refine below_alloc ?_ _ | refine Below.drew ?_ | refine pw_below_drewN ?_ _)) HG.out); rintro e w9 ⟨rfl, hb9⟩))
    go_ret
    exact ⟨rfl, below_step (by with_reducible repeat (first | exact HE7.out | refine below_alloc ?_ _ | refine Below.drew ?_ | refine pw_below_drewN ?_ _)) hb9⟩
end Go.Proofs.YtnomfbmebafolaaGreatDoor.P

namespace Go.Proofs.YtnomfbmebafolaaGreatDoor.P
open Go.RowKit Go.Proofs.YtnomfbmebafolaaGreatDoorW.PrintWords Go.Proofs.YtnomfbmebafolaaGreatDoorW.PrintLast Go.Proofs.YtnomfbmebafolaaGreatDoorW.PrintMore
open M (I64)
set_option linter.unusedVariables false
set_option linter.unusedSimpArgs false
def tightLf (x y : Nat) : Bool := decide (x < y) || (x == y && (x == 1 || x == 2))
def tightRt (x y : Nat) : Bool := decide (x < y) || (x == y && x == 3)
def tgCore (d : Nat) (sy : ByteArray) : ByteArray := (ptD d ++ sy) ++ ptD d
def tgWrap (d : Nat) (sy : ByteArray) : ByteArray := ((⟨#[40]⟩ : ByteArray) ++ tgCore d sy) ++ (⟨#[41]⟩ : ByteArray)
def tgL (x y d : Nat) (sy : ByteArray) : ByteArray := if tightLf x y = true then tgCore d sy else tgWrap d sy
def tgR (x y d : Nat) (sy : ByteArray) : ByteArray := if tightRt x y = true then tgCore d sy else tgWrap d sy
def tightB (x y d : Nat) : Bool :=
  match ptS[x]?, ptS[y]? with
  | some sx, some sy => decide (textO 40 (ptTwo sx (IN sy d) (LF d)) = some ((tgL x y d sy ++ sx) ++ ptD d, 0)) && (decide (textO 40 (ptTwo sx (LF d) (IN sy d)) = some ((ptD d ++ sx) ++ tgR x y d sy, 0)) && (decide (textO 40 (ptNeg (IN sy d)) = some ((⟨#[45]⟩ : ByteArray) ++ tgWrap d sy, 0)) && (decide (sx.size = 1) && (decide (sy.size = 1) && decide ((ptD d).size = 1)))))
  | _, _ => false
set_option maxRecDepth 100000 in
theorem tight_reckoned : ∀ x : Fin 4, ∀ y : Fin 4, ∀ d : Fin 10, tightB x.val y.val d.val = true := by decide +kernel
theorem pt_u8 {a : Int} (h : (Lit.int .u8 a).wf = true) : 0 ≤ a ∧ a ≤ 255 := by simp [Lit.wf, IntKind.min, IntKind.max, IntKind.signed, IntKind.bits] at h; omega
theorem tight_all (k0 k1 k2 : Int) (w : World) (hG : G4 w) (b0 : 0 ≤ k0 ∧ k0 ≤ 255) (b1 : 0 ≤ k1 ∧ k1 ≤ 255) (b2 : 0 ≤ k2 ∧ k2 ≤ 255) :
    Calls Tryz.prog 3 #[.int .u8 k0, .int .u8 k1, .int .u8 k2] w fun e w' => e = .returned (.bool true) ∧ Below w.heap.size w w' := by
  have hx : Int.tmod k0 4 = ((k0.toNat % 4 : Nat) : Int) := by rw [Int.tmod_eq_emod_of_nonneg b0.1]; omega
  have hy : Int.tmod k1 4 = ((k1.toNat % 4 : Nat) : Int) := by rw [Int.tmod_eq_emod_of_nonneg b1.1]; omega
  have hd : Int.tmod k2 10 = ((k2.toNat % 10 : Nat) : Int) := by rw [Int.tmod_eq_emod_of_nonneg b2.1]; omega
  have hxl := Nat.mod_lt k0.toNat (show 0 < 4 by decide)
  have hyl := Nat.mod_lt k1.toNat (show 0 < 4 by decide)
  have hdl := Nat.mod_lt k2.toNat (show 0 < 10 by decide)
  generalize k0.toNat % 4 = x at hx hxl
  generalize k1.toNat % 4 = y at hy hyl
  generalize k2.toNat % 10 = d at hd hdl
  have hB := tight_reckoned ⟨x, hxl⟩ ⟨y, hyl⟩ ⟨d, hdl⟩
  unfold tightB at hB
  cases hsx : ptS[x]? with
  | none => simp only [hsx] at hB; cases hB
  | some sx =>
    cases hsy : ptS[y]? with
    | none => simp only [hsx, hsy] at hB; cases hB
    | some sy =>
      simp only [hsx, hsy] at hB
      simp only [Bool.and_eq_true, decide_eq_true_eq] at hB
      obtain ⟨h1, h2, h3, hzx, hzy, hzd⟩ := hB
      refine tight_walk k0 k1 k2 w hG b0 b1 x y (d : Int) hx hy hd ⟨by omega, by omega⟩ hxl hyl sx sy hsx hsy hzx hzy hzd (tgCore d sy) (tgWrap d sy) (tgL x y d sy) (tgR x y d sy) rfl rfl 40 h1 h2 h3 ?_
      rcases Nat.lt_trichotomy x y with h | h | h
      · refine Or.inl ⟨h, if_pos ?_, if_pos ?_⟩
        · unfold tightLf; simp [h]
        · unfold tightRt; simp [h]
      · subst h
        rcases (show x = 0 ∨ x = 1 ∨ x = 2 ∨ x = 3 by omega) with rfl | rfl | rfl | rfl
        · exact Or.inr (Or.inr (Or.inr (Or.inl ⟨rfl, rfl, rfl, rfl⟩)))
        · exact Or.inr (Or.inl ⟨rfl, Or.inl rfl, rfl, rfl⟩)
        · exact Or.inr (Or.inl ⟨rfl, Or.inr rfl, rfl, rfl⟩)
        · exact Or.inr (Or.inr (Or.inl ⟨rfl, rfl, rfl, rfl⟩))
      · refine Or.inr (Or.inr (Or.inr (Or.inr ⟨h, if_neg ?_, if_neg ?_⟩)))
        · unfold tightLf; simp; omega
        · unfold tightRt; simp; omega
def pannierlaw06_PrintTight.f (k : Nat) (a b c : Int) : Option Bool := if (0 ≤ a ∧ a ≤ 255) ∧ (0 ≤ b ∧ b ≤ 255) ∧ (0 ≤ c ∧ c ≤ 255) then some true else none
theorem pannierlaw06_PrintTight.calls (k : Nat) (a b c : Int) (r : Bool) (w : World) (hG : G4 w) (h : pannierlaw06_PrintTight.f k a b c = some r) :
    Calls Tryz.prog 3 #[.int .u8 a, .int .u8 b, .int .u8 c] w fun e w' => e = .returned (.bool r) ∧ Below w.heap.size w w' := by
  unfold pannierlaw06_PrintTight.f at h
  split at h
  · rename_i hc
    obtain rfl := Option.some.inj h
    exact tight_all a b c w hG hc.1 hc.2.1 hc.2.2
  · cases h
theorem PrintTight_pure (a b c : Int) (ha : (Lit.int .u8 a).wf = true) (hb : (Lit.int .u8 b).wf = true) (hc : (Lit.int .u8 c).wf = true) : ∃ k, pannierlaw06_PrintTight.f k a b c = some true :=
  ⟨0, if_pos ⟨pt_u8 ha, pt_u8 hb, pt_u8 hc⟩⟩
end Go.Proofs.YtnomfbmebafolaaGreatDoor.P
