/- Contracts of the functions that the law reaches, each with the plain function that it comes to, and plain facts about these. -/
import Derived.Deep.RegionHeld3
import Derived.Deep.RegionWith
import Derived.Laws.Strings
import Derived.Lib.OthersKept
import Derived.Laws.RangeAny
import Derived.WalkSmall
import Derived.Test.YtnomfbmebafolaaGreatDoorBK2
namespace Go.Proofs.YtnomfbmebafolaaGreatDoor.P
open Go.RowKit Go.Proofs.YtnomfbmebafolaaGreatDoorW.PrintWords Go.Proofs.YtnomfbmebafolaaGreatDoorW.PrintLast Go.Proofs.YtnomfbmebafolaaGreatDoorW.PrintMore
open M (I64)
set_option linter.unusedVariables false
set_option linter.unusedSimpArgs false
def rowO (k : Nat) (t : TN) : Option Int := print_Row.f k t.f0 t.f1.f0 t.f1.f1 t.f1.f2 t.f2.f0.f0 t.f2.f0.f1 t.f2.f1.f0 t.f2.f1.f1 t.f3 t.f4
def conO (t : TN) : Option ByteArray := if t.f1.f0 = 2 then num_Dec.f t.f1.f1 else none
def leastL (T : TN → Option (List UInt8)) (k : Nat) (t : TN) (row : Int) : Option (List UInt8) :=
  match rowO k t with
  | none => none
  | some r => match T t with | none => none | some l => some (if row ≤ r then l else 40 :: (l ++ [41]))
def textT : Nat → TN → Option (List UInt8)
  | 0, _ => none
  | k + 1, t =>
    if t.f0 = 1 then (conO t).map (·.data.toList) else
    if t.f0 = 2 then (addr_Name.f t.f2.f0.f0 t.f2.f0.f1).map (·.data.toList) else
    if t.f0 = 4 then (match t.f4 with | [a] => (leastL (textT k) k a 5).map (45 :: ·) | _ => none) else
    if t.f0 = 5 then (match t.f4 with
      | [a, b] => match print_sides.f k t.f3 with
        | none => none
        | some (x, y) => match leastL (textT k) k a x with
          | none => none
          | some p => match leastL (textT k) k b y with | none => none | some q => some (p ++ (t.f3.data.toList ++ q))
      | _ => none) else
    none
theorem isW_below {B b : Nat} {bs : List Value} {W W' : World} (h : IsW B b bs W) (hb : Below W.heap.size W W') : IsW B b bs W' := by
  have one : ∀ p, Lib.BuilderAt 50 5 B b p bs W → Lib.BuilderAt 50 5 B b p bs W' := by
    rintro p ⟨hB, v, hbk, ⟨hl, ho⟩, hne⟩
    refine ⟨hB, v, (hb.block b (blk_lt hbk)).trans hbk, ⟨hl, ?_⟩, hne⟩
    rcases ho with ho | ⟨g, cap, cur, e1, e2, e3, r⟩
    · exact .inl ho
    · exact .inr ⟨g, cap, cur, e1, e2, (hb.block g (blk_lt e3)).trans e3, r⟩
  rcases h with h | h
  · exact .inl (one _ h)
  · exact .inr (one _ h)
theorem isW_alloc {B b : Nat} {bs : List Value} {W : World} (h : IsW B b bs W) (o : Obj) : IsW B b bs (W.alloc o) := isW_below h (below_alloc (Below.refl _ _) o)
theorem isW_drew {B b : Nat} {bs : List Value} {W : World} (h : IsW B b bs W) : IsW B b bs W.drew := h
theorem strCells_app (l : List UInt8) (s : ByteArray) : Lib.byteCells l ++ Lib.strCells s = Lib.byteCells (l ++ s.data.toList) := by
  simp [Lib.byteCells, Lib.strCells]
theorem k_of_alloc {a c : World} {o : Obj} (h : Below (a.alloc o).heap.size (a.alloc o) c) : Below a.heap.size a c :=
  ⟨h.os, h.tape, h.output, Nat.le_trans (by simp) h.size, fun i hi => (h.block i (by simp; omega)).trans (blk_alloc_old _ _ hi)⟩
theorem w_more {B b : Nat} {l : List UInt8} {W0 W : World} (h : IsW B b (Lib.byteCells l) W) (hB : B = W0.heap.size) (hbl : Below B W0 W) (s : ByteArray) (hs : l.length + s.size ≤ 200000000) :
    Calls Tryz.prog 27 #[ptr b, .string s] W fun e W' => ∃ v, e = .returned v ∧ IsW B b (Lib.byteCells (l ++ s.data.toList)) W' ∧ Below B W0 W' ∧ Keep b W W' := by
  have hsz := hbl.size
  refine (w_string B b (Lib.byteCells l) s W h (by rw [Lib.byteCells_length]; omega) (by omega)).mono ?_
  rintro e W' ⟨rfl, h1, h2, h3⟩
  rw [strCells_app] at h1
  exact ⟨_, rfl, h1, hbl.trans h2, h3⟩
def Writes (m : Nat) (args : Array Value) (W0 : World) (b : Nat) (out : List UInt8) : Prop := ∀ (W : World) (l : List UInt8), IsW W0.heap.size b (Lib.byteCells l) W → Below W0.heap.size W0 W → l.length + out.length ≤ 100000000 →
  Calls Tryz.prog m args W fun e W' => e = .returned (.tuple #[]) ∧ IsW W0.heap.size b (Lib.byteCells (l ++ out)) W' ∧ Below W0.heap.size W0 W' ∧ Keep b W W'
set_option maxHeartbeats 1000000 in
set_option maxRecDepth 100000 in
theorem const_int (n : Int) (u : ByteArray) (s : ByteArray) (h : num_Dec.f n = some s) (W : World) (hG : G1 W) :
    Calls Tryz.prog 28 #[.agg #[.int .i64 2, .int .i64 n, .string u]] W fun e W' => e = .returned (.string s) ∧ Below W.heap.size W W' := by
  have hu := Tryz.underlying24
  have HD := Lib.hid h
  have HG := Lib.hid hG
  clear h hG
  go_enter Tryz.func28, Tryz.ntmps28
  go_wp2_with (go_at_call 36; (with_reducible refine (num_Dec.calls _ _ _ ?sg HD.out).mono ?_); (case sg => exact gl_1_1 (below_alloc (Below.refl _ _) _) HG.out); rintro e w1 ⟨rfl, hb⟩)
  go_ret
  exact ⟨rfl, k_of_alloc hb⟩
set_option maxHeartbeats 4000000 in
set_option maxRecDepth 100000 in
theorem node_const (t : TN) (v9 : Value) (W0 : World) (b : Nat) (s : ByteArray) (h1 : t.f0 = 1) (hc : conO t = some s) (hG : G1 W0) :
    Writes 11 #[ptr b, ndV t v9] W0 b s.data.toList := by
  intro W l hI hb hl
  have hl : l.length + s.size ≤ 200000000 := by have h : s.data.toList.length = s.size := Array.length_toList; omega
  have hu := Tryz.underlying31
  have hu2 := Tryz.underlying50
  have HG := Lib.hid hG
  have HI := Lib.hid hI
  have HB := Lib.hid hb
  have h2 : t.f1.f0 = 2 ∧ num_Dec.f t.f1.f1 = some s := by
    unfold conO at hc
    by_cases h : t.f1.f0 = 2
    · rw [if_pos h] at hc; exact ⟨h, hc⟩
    · rw [if_neg h] at hc; cases hc
  have HC := Lib.hid h2.2
  have hk2 := h2.1
  clear h2
  have hk : (t.f0 == 1) = true := beq_iff_eq.2 h1
  clear hG hI hb hc h1
  go_enter Tryz.func11, Tryz.ntmps11
  go_wp2_with fail
  go_region_with (first | (go_at_call 28; (with_reducible refine (const_int _ _ _ HC.out _ ?sg).mono ?_); (case sg => exact gl_1_1 (by with_reducible repeat (first | exact HB.out | refine below_alloc ?_ _ | refine pw_below_drewN ?_ _ | refine Below.drew ?_)) HG.out); rintro e w1 ⟨rfl, hbl⟩; have HI1 := Lib.hid (isW_below (B := W0.heap.size) (b := b) (bs := Lib.byteCells l) (by with_reducible repeat (first | exact HI.out | refine isW_alloc ?_ _ | refine isW_drewN ?_ _ | refine isW_drew ?_)) hbl); have HB1 := Lib.hid (below_step (w := W0) (by with_reducible repeat (first | exact HB.out | refine below_alloc ?_ _ | refine pw_below_drewN ?_ _ | refine Below.drew ?_)) hbl); have HK1 := Lib.hid (Keep.below (b := b) hbl)) | (go_at_call 27; (with_reducible refine (w_more (B := W0.heap.size) (b := b) (l := l) (W0 := W0) (by with_reducible repeat (first | exact HI1.out | refine isW_drewN ?_ _ | refine isW_drew ?_)) rfl (by with_reducible repeat (first | exact HB1.out | refine pw_below_drewN ?_ _ | refine Below.drew ?_)) s hl).mono ?_); rintro e w2 ⟨v2, rfl, hI2, hB2, hK2⟩))
  all_goals go_wp2_with fail
  all_goals go_end0
  all_goals exact ⟨rfl, hI2, hB2, ((Keep.below (below_alloc (Below.refl _ _) _)).trans (HK1.out)).trans hK2⟩
end Go.Proofs.YtnomfbmebafolaaGreatDoor.P

namespace Go.Proofs.YtnomfbmebafolaaGreatDoor.P
open Go.RowKit Go.Proofs.YtnomfbmebafolaaGreatDoorW.PrintWords Go.Proofs.YtnomfbmebafolaaGreatDoorW.PrintLast Go.Proofs.YtnomfbmebafolaaGreatDoorW.PrintMore
open M (I64)
set_option linter.unusedVariables false
set_option linter.unusedSimpArgs false
theorem keep_drew {b : Nat} {W V : World} (h : Keep b W V) : Keep b W V.drew := h
theorem isW_lt {B b : Nat} {bs : List Value} {W : World} (h : IsW B b bs W) : b < W.heap.size := by
  rcases h with h | h
  · exact h.lt
  · exact h.lt
theorem Keep.box {b : Nat} {W V : World} {q : Nat} {t : TN} {v9 : Value} (h : Keep b W V) (e : W.heap[q]? = some (ndO t v9)) (hq : q ≠ b) : V.heap[q]? = some (ndO t v9) := h q _ _ _ e (by decide) hq
theorem Writes.go {m : Nat} {args : Array Value} {W0 : World} {b : Nat} {out : List UInt8} (h : Writes m args W0 b out) (W : World) (l : List UInt8) (h1 : IsW W0.heap.size b (Lib.byteCells l) W) (h2 : Below W0.heap.size W0 W) (h3 : l.length + out.length ≤ 100000000) :
    Calls Tryz.prog m args W fun e W' => e = .returned (.tuple #[]) ∧ IsW W0.heap.size b (Lib.byteCells (l ++ out)) W' ∧ Below W0.heap.size W0 W' ∧ Keep b W W' := h W l h1 h2 h3
theorem data_len (s : ByteArray) : s.data.toList.length = s.size := Array.length_toList
set_option maxHeartbeats 4000000 in
set_option maxRecDepth 100000 in
theorem least_plain (t : TN) (A : Option Addr) (c : Nat) (W0 : World) (b : Nat) (k : Nat) (row r : Int) (out : List UInt8) (hV : vN (fun j => j < W0.heap.size) W0 (.slice A t.f4.length c) t.f4) (hr : rowO k t = some r) (hF : Writes 11 #[ptr b, ndV t (.slice A t.f4.length c)] W0 b out) (hle : row ≤ r) : Writes 30 #[ptr b, ndV t (.slice A t.f4.length c), .int .i64 row] W0 b out := by
  intro W l hI hb hl
  have hu := Tryz.underlying31
  have hu2 := Tryz.underlying50
  have HI0 := Lib.hid hI
  have HB0 := Lib.hid hb
  have BX0 := Lib.hid (blk_new W (ndO t (.slice A t.f4.length c)))
  have HK0 := Lib.hid (Keep.refl b (W.alloc (ndO t (.slice A t.f4.length c))))
  have HNE := Lib.hid (show W.heap.size ≠ b from Nat.ne_of_gt (isW_lt hI))
  have HV0 := Lib.hid (show vN (fun j => j < W0.heap.size) W (.slice A t.f4.length c) t.f4 from Kd.V_step hV (fun k hk _ => hb.block k hk))
  have HR := Lib.hid (show print_Row.f k t.f0 t.f1.f0 t.f1.f1 t.f1.f2 t.f2.f0.f0 t.f2.f0.f1 t.f2.f1.f0 t.f2.f1.f1 t.f3 t.f4 = some r from hr)
  have HF := Lib.hid hF
  have hq : decide (row ≤ r) = true := decide_eq_true hle
  clear hI hb hV hr hF
  go_enter Tryz.func30, Tryz.ntmps30
  go_wp2_with (first | (go_at_call 15; (with_reducible refine (print_Row.calls k _ _ _ _ _ _ _ _ _ _ _ _ _ _ ?sr ?sc HR.out).mono ?_); (case sr => (refine (Kd.V_reads' (e := 31) (base := 0) (ok := fun j => j < W0.heap.size) (n := t.f4.length) (c := c) ?_).2.2; with_reducible repeat (first | exact HV0.out | refine Kd.V_alloc ?_ _ | refine Kd.V_drewN ?_ _ | refine Kd.V_drew ?_))); (case sc => exact (Kd.V_reads' HV0.out).2.1); rintro e w1 ⟨rfl, hbl⟩; have HI1 := Lib.hid (isW_below (B := W0.heap.size) (b := b) (bs := Lib.byteCells (l)) (by with_reducible repeat (first | exact HI0.out | refine isW_alloc ?_ _ | refine isW_drewN ?_ _ | refine isW_drew ?_)) hbl); have HB1 := Lib.hid (below_step (w := W0) (by with_reducible repeat (first | exact HB0.out | refine below_alloc ?_ _ | refine pw_below_drewN ?_ _ | refine Below.drew ?_)) hbl); have HK1 := Lib.hid (Keep.trans (W := W.alloc (ndO t (.slice A t.f4.length c))) (by with_reducible repeat (first | exact HK0.out | refine keep_drewN ?_ _ | refine keep_drew ?_)) (Keep.below (b := b) hbl)); have BX1 := Lib.hid (Keep.box (t := t) (v9 := .slice A t.f4.length c) (q := W.heap.size) (Keep.below (b := b) hbl) (by with_reducible repeat (first | exact BX0.out | exact blk_new _ _ | refine blk_alloc ?_ _ | refine blk_drewN ?_ _ | refine blk_drew ?_)) HNE.out); (try clear c0 c1 c2 c3 c4 c5 c6 c7 c8 c9 z0 z1 z2 z3 z4 z5 z6 z7 z8 z9); obtain ⟨⟨c0, c1, c2, c3, c4, c5, c6, c7, c8, c9⟩, z0, z1, z2, z3, z4, z5, z6, z7, z8, z9⟩ := z10 BX1.out) | (go_at_call 11; (fail_if_success have := HI2); (with_reducible refine (HF.out.go _ (l) ?si ?sb ?sl).mono ?_); (case si => exact (by with_reducible repeat (first | exact HI1.out | refine isW_alloc ?_ _ | refine isW_drewN ?_ _ | refine isW_drew ?_))); (case sb => exact (by with_reducible repeat (first | exact HB1.out | refine below_alloc ?_ _ | refine pw_below_drewN ?_ _ | refine Below.drew ?_))); (case sl => exact hl); rintro e w2 ⟨rfl, hI, hB, hK⟩; have HI2 := Lib.hid hI; have HB2 := Lib.hid (hB); have HK2 := Lib.hid (Keep.trans (W := W.alloc (ndO t (.slice A t.f4.length c))) (by with_reducible repeat (first | exact HK1.out | refine keep_drewN ?_ _ | refine keep_drew ?_)) (hK)); have BX2 := Lib.hid (Keep.box (t := t) (v9 := .slice A t.f4.length c) (q := W.heap.size) (hK) (by with_reducible repeat (first | exact BX1.out | exact blk_new _ _ | refine blk_alloc ?_ _ | refine blk_drewN ?_ _ | refine blk_drew ?_)) HNE.out); (try clear c0 c1 c2 c3 c4 c5 c6 c7 c8 c9 z0 z1 z2 z3 z4 z5 z6 z7 z8 z9); obtain ⟨⟨c0, c1, c2, c3, c4, c5, c6, c7, c8, c9⟩, z0, z1, z2, z3, z4, z5, z6, z7, z8, z9⟩ := z10 BX2.out; clear hI hB hK))
  refine bodyPost_ret (results_none rfl _ _ _) rfl ?_
  exact ⟨rfl, HI2.out, HB2.out, ((Keep.below (below_alloc (Below.refl _ _) _)).trans HK2.out)⟩
set_option maxHeartbeats 4000000 in
set_option maxRecDepth 100000 in
theorem least_paren (t : TN) (A : Option Addr) (c : Nat) (W0 : World) (b : Nat) (k : Nat) (row r : Int) (out : List UInt8) (hV : vN (fun j => j < W0.heap.size) W0 (.slice A t.f4.length c) t.f4) (hr : rowO k t = some r) (hF : Writes 11 #[ptr b, ndV t (.slice A t.f4.length c)] W0 b out) (hle : ¬ row ≤ r) : Writes 30 #[ptr b, ndV t (.slice A t.f4.length c), .int .i64 row] W0 b (40 :: (out ++ [41])) := by
  intro W l hI hb hl
  have hu := Tryz.underlying31
  have hu2 := Tryz.underlying50
  have HI0 := Lib.hid hI
  have HB0 := Lib.hid hb
  have BX0 := Lib.hid (blk_new W (ndO t (.slice A t.f4.length c)))
  have HK0 := Lib.hid (Keep.refl b (W.alloc (ndO t (.slice A t.f4.length c))))
  have HNE := Lib.hid (show W.heap.size ≠ b from Nat.ne_of_gt (isW_lt hI))
  have HV0 := Lib.hid (show vN (fun j => j < W0.heap.size) W (.slice A t.f4.length c) t.f4 from Kd.V_step hV (fun k hk _ => hb.block k hk))
  have HR := Lib.hid (show print_Row.f k t.f0 t.f1.f0 t.f1.f1 t.f1.f2 t.f2.f0.f0 t.f2.f0.f1 t.f2.f1.f0 t.f2.f1.f1 t.f3 t.f4 = some r from hr)
  have HF := Lib.hid hF
  have hq : decide (row ≤ r) = false := decide_eq_false hle
  have hl1 : (l ++ [40]).length + out.length ≤ 100000000 := by simp only [List.length_append, List.length_cons, List.length_nil] at hl ⊢; omega
  have hl0 : l.length + (⟨#[40]⟩ : ByteArray).size ≤ 200000000 := by simp only [List.length_cons, List.length_append] at hl; show l.length + 1 ≤ _; omega
  have hl2 : ((l ++ [40]) ++ out).length + (⟨#[41]⟩ : ByteArray).size ≤ 200000000 := by simp only [List.length_append, List.length_cons, List.length_nil] at hl ⊢; show _ + 1 ≤ _; omega
  clear hI hb hV hr hF
  go_enter Tryz.func30, Tryz.ntmps30
  go_wp2_with (first | (go_at_call 15; (with_reducible refine (print_Row.calls k _ _ _ _ _ _ _ _ _ _ _ _ _ _ ?sr ?sc HR.out).mono ?_); (case sr => (refine (Kd.V_reads' (e := 31) (base := 0) (ok := fun j => j < W0.heap.size) (n := t.f4.length) (c := c) ?_).2.2; with_reducible repeat (first | exact HV0.out | refine Kd.V_alloc ?_ _ | refine Kd.V_drewN ?_ _ | refine Kd.V_drew ?_))); (case sc => exact (Kd.V_reads' HV0.out).2.1); rintro e w1 ⟨rfl, hbl⟩; have HI1 := Lib.hid (isW_below (B := W0.heap.size) (b := b) (bs := Lib.byteCells (l)) (by with_reducible repeat (first | exact HI0.out | refine isW_alloc ?_ _ | refine isW_drewN ?_ _ | refine isW_drew ?_)) hbl); have HB1 := Lib.hid (below_step (w := W0) (by with_reducible repeat (first | exact HB0.out | refine below_alloc ?_ _ | refine pw_below_drewN ?_ _ | refine Below.drew ?_)) hbl); have HK1 := Lib.hid (Keep.trans (W := W.alloc (ndO t (.slice A t.f4.length c))) (by with_reducible repeat (first | exact HK0.out | refine keep_drewN ?_ _ | refine keep_drew ?_)) (Keep.below (b := b) hbl)); have BX1 := Lib.hid (Keep.box (t := t) (v9 := .slice A t.f4.length c) (q := W.heap.size) (Keep.below (b := b) hbl) (by with_reducible repeat (first | exact BX0.out | exact blk_new _ _ | refine blk_alloc ?_ _ | refine blk_drewN ?_ _ | refine blk_drew ?_)) HNE.out); (try clear c0 c1 c2 c3 c4 c5 c6 c7 c8 c9 z0 z1 z2 z3 z4 z5 z6 z7 z8 z9); obtain ⟨⟨c0, c1, c2, c3, c4, c5, c6, c7, c8, c9⟩, z0, z1, z2, z3, z4, z5, z6, z7, z8, z9⟩ := z10 BX1.out) | (go_at_call 27; (fail_if_success have := HI2); (with_reducible refine (w_more (B := W0.heap.size) (b := b) (l := l) (W0 := W0) (by with_reducible repeat (first | exact HI1.out | refine isW_alloc ?_ _ | refine isW_drewN ?_ _ | refine isW_drew ?_)) rfl (by with_reducible repeat (first | exact HB1.out | refine below_alloc ?_ _ | refine pw_below_drewN ?_ _ | refine Below.drew ?_)) ⟨#[40]⟩ ?hl).mono ?_); (case hl => exact hl0); rintro e w2 ⟨v2, rfl, hI, hB, hK⟩; have HI2 := Lib.hid hI; have HB2 := Lib.hid (hB); have HK2 := Lib.hid (Keep.trans (W := W.alloc (ndO t (.slice A t.f4.length c))) (by with_reducible repeat (first | exact HK1.out | refine keep_drewN ?_ _ | refine keep_drew ?_)) (hK)); have BX2 := Lib.hid (Keep.box (t := t) (v9 := .slice A t.f4.length c) (q := W.heap.size) (hK) (by with_reducible repeat (first | exact BX1.out | exact blk_new _ _ | refine blk_alloc ?_ _ | refine blk_drewN ?_ _ | refine blk_drew ?_)) HNE.out); (try clear c0 c1 c2 c3 c4 c5 c6 c7 c8 c9 z0 z1 z2 z3 z4 z5 z6 z7 z8 z9); obtain ⟨⟨c0, c1, c2, c3, c4, c5, c6, c7, c8, c9⟩, z0, z1, z2, z3, z4, z5, z6, z7, z8, z9⟩ := z10 BX2.out; clear hI hB hK) | (go_at_call 11; (fail_if_success have := HI3); (with_reducible refine (HF.out.go _ (l ++ [40]) ?si ?sb ?sl).mono ?_); (case si => exact (by with_reducible repeat (first | exact HI2.out | refine isW_alloc ?_ _ | refine isW_drewN ?_ _ | refine isW_drew ?_))); (case sb => exact (by with_reducible repeat (first | exact HB2.out | refine below_alloc ?_ _ | refine pw_below_drewN ?_ _ | refine Below.drew ?_))); (case sl => exact hl1); rintro e w3 ⟨rfl, hI, hB, hK⟩; have HI3 := Lib.hid hI; have HB3 := Lib.hid (hB); have HK3 := Lib.hid (Keep.trans (W := W.alloc (ndO t (.slice A t.f4.length c))) (by with_reducible repeat (first | exact HK2.out | refine keep_drewN ?_ _ | refine keep_drew ?_)) (hK)); have BX3 := Lib.hid (Keep.box (t := t) (v9 := .slice A t.f4.length c) (q := W.heap.size) (hK) (by with_reducible repeat (first | exact BX2.out | exact blk_new _ _ | refine blk_alloc ?_ _ | refine blk_drewN ?_ _ | refine blk_drew ?_)) HNE.out); (try clear c0 c1 c2 c3 c4 c5 c6 c7 c8 c9 z0 z1 z2 z3 z4 z5 z6 z7 z8 z9); obtain ⟨⟨c0, c1, c2, c3, c4, c5, c6, c7, c8, c9⟩, z0, z1, z2, z3, z4, z5, z6, z7, z8, z9⟩ := z10 BX3.out; clear hI hB hK) | (go_at_call 27; (fail_if_success have := HI4); (with_reducible refine (w_more (B := W0.heap.size) (b := b) (l := (l ++ [40]) ++ out) (W0 := W0) (by with_reducible repeat (first | exact HI3.out | refine isW_alloc ?_ _ | refine isW_drewN ?_ _ | refine isW_drew ?_)) rfl (by with_reducible repeat (first | exact HB3.out | refine below_alloc ?_ _ | refine pw_below_drewN ?_ _ | refine Below.drew ?_)) ⟨#[41]⟩ ?hl).mono ?_); (case hl => exact hl2); rintro e w4 ⟨v4, rfl, hI, hB, hK⟩; have HI4 := Lib.hid hI; have HB4 := Lib.hid (hB); have HK4 := Lib.hid (Keep.trans (W := W.alloc (ndO t (.slice A t.f4.length c))) (by with_reducible repeat (first | exact HK3.out | refine keep_drewN ?_ _ | refine keep_drew ?_)) (hK)); have BX4 := Lib.hid (Keep.box (t := t) (v9 := .slice A t.f4.length c) (q := W.heap.size) (hK) (by with_reducible repeat (first | exact BX3.out | exact blk_new _ _ | refine blk_alloc ?_ _ | refine blk_drewN ?_ _ | refine blk_drew ?_)) HNE.out); (try clear c0 c1 c2 c3 c4 c5 c6 c7 c8 c9 z0 z1 z2 z3 z4 z5 z6 z7 z8 z9); obtain ⟨⟨c0, c1, c2, c3, c4, c5, c6, c7, c8, c9⟩, z0, z1, z2, z3, z4, z5, z6, z7, z8, z9⟩ := z10 BX4.out; clear hI hB hK))
  go_end0
  have e_ : ((l ++ [40]) ++ out) ++ (⟨#[41]⟩ : ByteArray).data.toList = l ++ (40 :: (out ++ [41])) := by simp
  have HI5 := HI4.out
  rw [e_] at HI5
  exact ⟨rfl, HI5, HB4.out, ((Keep.below (below_alloc (Below.refl _ _) _)).trans HK4.out)⟩
abbrev El0 (W : World) (ad : Addr) (x : TN) (v9 : Value) : Prop := W.cell? ad = some (.int .i64 x.f0) ∧ W.cell? ⟨ad.block, ad.off + 1, none⟩ = some (.int .i64 x.f1.f0) ∧ W.cell? ⟨ad.block, ad.off + 2, none⟩ = some (.int .i64 x.f1.f1) ∧ W.cell? ⟨ad.block, ad.off + 3, none⟩ = some (.string x.f1.f2) ∧ W.cell? ⟨ad.block, ad.off + 4, none⟩ = some (.int .i64 x.f2.f0.f0) ∧ W.cell? ⟨ad.block, ad.off + 5, none⟩ = some (.int .i64 x.f2.f0.f1) ∧ W.cell? ⟨ad.block, ad.off + 6, none⟩ = some (.int .i64 x.f2.f1.f0) ∧ W.cell? ⟨ad.block, ad.off + 7, none⟩ = some (.int .i64 x.f2.f1.f1) ∧ W.cell? ⟨ad.block, ad.off + 8, none⟩ = some (.string x.f3) ∧ W.cell? ⟨ad.block, ad.off + 9, none⟩ = some v9
theorem El0_below {W0 W : World} {ad : Addr} {x : TN} {v9 : Value} (h : El0 W0 ad x v9) (hb : Below W0.heap.size W0 W) : El0 W ad x v9 :=
  have one : ∀ (p : Addr) (v : Value), W0.cell? p = some v → W.cell? p = some v := fun p v h => (Below.cell hb (World.block_lt_of_cell? _ _ h)).trans h
  ⟨one _ _ h.1, one _ _ h.2.1, one _ _ h.2.2.1, one _ _ h.2.2.2.1, one _ _ h.2.2.2.2.1, one _ _ h.2.2.2.2.2.1, one _ _ h.2.2.2.2.2.2.1, one _ _ h.2.2.2.2.2.2.2.1, one _ _ h.2.2.2.2.2.2.2.2.1, one _ _ h.2.2.2.2.2.2.2.2.2⟩
abbrev El1 (W : World) (ad : Addr) (x : TN) (v9 : Value) : Prop := W.cell? ⟨ad.block, ad.off + 10, none⟩ = some (.int .i64 x.f0) ∧ W.cell? ⟨ad.block, ad.off + 10 + 1, none⟩ = some (.int .i64 x.f1.f0) ∧ W.cell? ⟨ad.block, ad.off + 10 + 2, none⟩ = some (.int .i64 x.f1.f1) ∧ W.cell? ⟨ad.block, ad.off + 10 + 3, none⟩ = some (.string x.f1.f2) ∧ W.cell? ⟨ad.block, ad.off + 10 + 4, none⟩ = some (.int .i64 x.f2.f0.f0) ∧ W.cell? ⟨ad.block, ad.off + 10 + 5, none⟩ = some (.int .i64 x.f2.f0.f1) ∧ W.cell? ⟨ad.block, ad.off + 10 + 6, none⟩ = some (.int .i64 x.f2.f1.f0) ∧ W.cell? ⟨ad.block, ad.off + 10 + 7, none⟩ = some (.int .i64 x.f2.f1.f1) ∧ W.cell? ⟨ad.block, ad.off + 10 + 8, none⟩ = some (.string x.f3) ∧ W.cell? ⟨ad.block, ad.off + 10 + 9, none⟩ = some v9
theorem El1_below {W0 W : World} {ad : Addr} {x : TN} {v9 : Value} (h : El1 W0 ad x v9) (hb : Below W0.heap.size W0 W) : El1 W ad x v9 :=
  have one : ∀ (p : Addr) (v : Value), W0.cell? p = some v → W.cell? p = some v := fun p v h => (Below.cell hb (World.block_lt_of_cell? _ _ h)).trans h
  ⟨one _ _ h.1, one _ _ h.2.1, one _ _ h.2.2.1, one _ _ h.2.2.2.1, one _ _ h.2.2.2.2.1, one _ _ h.2.2.2.2.2.1, one _ _ h.2.2.2.2.2.2.1, one _ _ h.2.2.2.2.2.2.2.1, one _ _ h.2.2.2.2.2.2.2.2.1, one _ _ h.2.2.2.2.2.2.2.2.2⟩
theorem el_some {W0 : World} {A : Option Addr} {c : Nat} {x : TN} {l : List TN} (hV : vN (fun j => j < W0.heap.size) W0 (.slice A (x :: l).length c) (x :: l)) : ∃ ad, A = some ad := by
  obtain ⟨-, ad, A9, c9, hA, -⟩ := V_at hV 0 x rfl
  exact ⟨ad, hA⟩
theorem el_of0 {W0 : World} {ad : Addr} {c : Nat} {x : TN} {l : List TN} (hV : vN (fun j => j < W0.heap.size) W0 (.slice (some ad) (x :: l).length c) (x :: l)) : ∃ A9 c9, El0 W0 ad x (.slice A9 x.f4.length c9) ∧ vN (fun j => j < W0.heap.size) W0 (.slice A9 x.f4.length c9) x.f4 := by
  obtain ⟨-, ad', A9, c9, hA, g0, g1, g2, g3, g4, g5, g6, g7, g8, g9, hv⟩ := V_at hV 0 x rfl
  obtain rfl := Option.some.inj hA
  exact ⟨A9, c9, ⟨g0, g1, g2, g3, g4, g5, g6, g7, g8, g9⟩, hv⟩
theorem el_of1 {W0 : World} {ad : Addr} {c : Nat} {x y : TN} (hV : vN (fun j => j < W0.heap.size) W0 (.slice (some ad) [y, x].length c) [y, x]) : ∃ A9 c9, El1 W0 ad x (.slice A9 x.f4.length c9) ∧ vN (fun j => j < W0.heap.size) W0 (.slice A9 x.f4.length c9) x.f4 := by
  obtain ⟨-, ad', A9, c9, hA, g0, g1, g2, g3, g4, g5, g6, g7, g8, g9, hv⟩ := V_at hV 1 x rfl
  obtain rfl := Option.some.inj hA
  exact ⟨A9, c9, ⟨g0, g1, g2, g3, g4, g5, g6, g7, g8, g9⟩, hv⟩
set_option maxHeartbeats 4000000 in
set_option maxRecDepth 100000 in
theorem node_cell (t : TN) (A : Option Addr) (c : Nat) (W0 : World) (b : Nat) (s : ByteArray) (h0 : t.f0 = 2) (hc : addr_Name.f t.f2.f0.f0 t.f2.f0.f1 = some s) (hG : G1 W0) : Writes 11 #[ptr b, ndV t (.slice A t.f4.length c)] W0 b s.data.toList := by
  intro W l hI hb hl
  have hu := Tryz.underlying31
  have hu2 := Tryz.underlying50
  have HI0 := Lib.hid hI
  have HB0 := Lib.hid hb
  have BX0 := Lib.hid (blk_new W (ndO t (.slice A t.f4.length c)))
  have HK0 := Lib.hid (Keep.refl b (W.alloc (ndO t (.slice A t.f4.length c))))
  have HNE := Lib.hid (show W.heap.size ≠ b from Nat.ne_of_gt (isW_lt hI))
  have HC := Lib.hid hc
  have HG := Lib.hid hG
  have hl0 : l.length + s.size ≤ 200000000 := by have h := data_len s; omega
  have hk1 : (t.f0 == 1) = false := by rw [h0]; rfl
  have hk2 : (t.f0 == 2) = true := by rw [h0]; rfl
  clear hI hb hc hG h0
  go_enter Tryz.func11, Tryz.ntmps11
  go_wp2_with fail
  go_region_with (first | (go_at_call 29; (with_reducible refine (addr_Name.calls _ _ _ _ ?sg HC.out).mono ?_); (case sg => exact gl_1_1 (by with_reducible repeat (first | exact HB0.out | refine below_alloc ?_ _ | refine pw_below_drewN ?_ _ | refine Below.drew ?_)) HG.out); rintro e w1 ⟨rfl, hbl⟩; have HI1 := Lib.hid (isW_below (B := W0.heap.size) (b := b) (bs := Lib.byteCells (l)) (by with_reducible repeat (first | exact HI0.out | refine isW_alloc ?_ _ | refine isW_drewN ?_ _ | refine isW_drew ?_)) hbl); have HB1 := Lib.hid (below_step (w := W0) (by with_reducible repeat (first | exact HB0.out | refine below_alloc ?_ _ | refine pw_below_drewN ?_ _ | refine Below.drew ?_)) hbl); have HK1 := Lib.hid (Keep.trans (W := W.alloc (ndO t (.slice A t.f4.length c))) (by with_reducible repeat (first | exact HK0.out | refine keep_drewN ?_ _ | refine keep_drew ?_)) (Keep.below (b := b) hbl)); have BX1 := Lib.hid (Keep.box (t := t) (v9 := .slice A t.f4.length c) (q := W.heap.size) (Keep.below (b := b) hbl) (by with_reducible repeat (first | exact BX0.out | exact blk_new _ _ | refine blk_alloc ?_ _ | refine blk_drewN ?_ _ | refine blk_drew ?_)) HNE.out); (try clear c0 c1 c2 c3 c4 c5 c6 c7 c8 c9 z0 z1 z2 z3 z4 z5 z6 z7 z8 z9); obtain ⟨⟨c0, c1, c2, c3, c4, c5, c6, c7, c8, c9⟩, z0, z1, z2, z3, z4, z5, z6, z7, z8, z9⟩ := z10 BX1.out) | (go_at_call 27; (fail_if_success have := HI2); (with_reducible refine (w_more (B := W0.heap.size) (b := b) (l := l) (W0 := W0) (by with_reducible repeat (first | exact HI1.out | refine isW_alloc ?_ _ | refine isW_drewN ?_ _ | refine isW_drew ?_)) rfl (by with_reducible repeat (first | exact HB1.out | refine below_alloc ?_ _ | refine pw_below_drewN ?_ _ | refine Below.drew ?_)) s ?hl).mono ?_); (case hl => exact hl0); rintro e w2 ⟨v2, rfl, hI, hB, hK⟩; have HI2 := Lib.hid hI; have HB2 := Lib.hid (hB); have HK2 := Lib.hid (Keep.trans (W := W.alloc (ndO t (.slice A t.f4.length c))) (by with_reducible repeat (first | exact HK1.out | refine keep_drewN ?_ _ | refine keep_drew ?_)) (hK)); have BX2 := Lib.hid (Keep.box (t := t) (v9 := .slice A t.f4.length c) (q := W.heap.size) (hK) (by with_reducible repeat (first | exact BX1.out | exact blk_new _ _ | refine blk_alloc ?_ _ | refine blk_drewN ?_ _ | refine blk_drew ?_)) HNE.out); (try clear c0 c1 c2 c3 c4 c5 c6 c7 c8 c9 z0 z1 z2 z3 z4 z5 z6 z7 z8 z9); obtain ⟨⟨c0, c1, c2, c3, c4, c5, c6, c7, c8, c9⟩, z0, z1, z2, z3, z4, z5, z6, z7, z8, z9⟩ := z10 BX2.out; clear hI hB hK))
  all_goals go_wp2_with fail
  all_goals go_end0
  all_goals exact ⟨rfl, HI2.out, HB2.out, ((Keep.below (below_alloc (Below.refl _ _) _)).trans HK2.out)⟩
end Go.Proofs.YtnomfbmebafolaaGreatDoor.P

namespace Go.Proofs.YtnomfbmebafolaaGreatDoor.P
open Go.RowKit Go.Proofs.YtnomfbmebafolaaGreatDoorW.PrintWords Go.Proofs.YtnomfbmebafolaaGreatDoorW.PrintLast Go.Proofs.YtnomfbmebafolaaGreatDoorW.PrintMore
open M (I64)
set_option linter.unusedVariables false
set_option linter.unusedSimpArgs false
set_option maxHeartbeats 4000000 in
set_option maxRecDepth 100000 in
theorem node_neg (t : TN) (ad : Addr) (c : Nat) (W0 : World) (b : Nat) (x : TN) (out : List UInt8) (h0 : t.f0 = 4) (h4 : t.f4 = [x]) (hV : vN (fun j => j < W0.heap.size) W0 (.slice (some ad) 1 c) t.f4) (hF : ∀ A9 c9, vN (fun j => j < W0.heap.size) W0 (.slice A9 x.f4.length c9) x.f4 → Writes 30 #[ptr b, ndV x (.slice A9 x.f4.length c9), .int .i64 5] W0 b  out) : Writes 11 #[ptr b, ndV t (.slice (some ad) 1 c)] W0 b (45 :: out) := by
  intro W l hI hb hl
  have hu := Tryz.underlying31
  have hu2 := Tryz.underlying50
  have HI0 := Lib.hid hI
  have HB0 := Lib.hid hb
  have BX0 := Lib.hid (blk_new W (ndO t (.slice (some ad) 1 c)))
  have HK0 := Lib.hid (Keep.refl b (W.alloc (ndO t (.slice (some ad) 1 c))))
  have HNE := Lib.hid (show W.heap.size ≠ b from Nat.ne_of_gt (isW_lt hI))
  rw [h4] at hV
  obtain ⟨A9, c9, hE, hv⟩ := el_of0 (x := x) (l := []) hV
  have HF := Lib.hid (hF A9 c9 hv)
  have HE := Lib.hid hE
  have hl0 : l.length + (⟨#[45]⟩ : ByteArray).size ≤ 200000000 := by simp only [List.length_cons] at hl; show l.length + 1 ≤ _; omega
  have hl1 : (l ++ [45]).length + out.length ≤ 100000000 := by simp only [List.length_append, List.length_cons, List.length_nil] at hl ⊢; omega
  have hk1 : (t.f0 == 1) = false := by rw [h0]; rfl
  have hk2 : (t.f0 == 2) = false := by rw [h0]; rfl
  have hk3 : (t.f0 == 3) = false := by rw [h0]; rfl
  have hk4 : (t.f0 == 4) = true := by rw [h0]; rfl
  clear hI hb hV hF hE hv h0
  go_enter Tryz.func11, Tryz.ntmps11
  go_wp2_with (first | (go_at_call 27; (fail_if_success have := HI1); (with_reducible refine (w_more (B := W0.heap.size) (b := b) (l := l) (W0 := W0) (by with_reducible repeat (first | exact HI0.out | refine isW_alloc ?_ _ | refine isW_drewN ?_ _ | refine isW_drew ?_)) rfl (by with_reducible repeat (first | exact HB0.out | refine below_alloc ?_ _ | refine pw_below_drewN ?_ _ | refine Below.drew ?_)) ⟨#[45]⟩ ?hl).mono ?_); (case hl => exact hl0); rintro e w1 ⟨v1, rfl, hI, hB, hK⟩; have HI1 := Lib.hid hI; have HB1 := Lib.hid (hB); have HK1 := Lib.hid (Keep.trans (W := W.alloc (ndO t (.slice (some ad) 1 c))) (by with_reducible repeat (first | exact HK0.out | refine keep_drewN ?_ _ | refine keep_drew ?_)) (hK)); have BX1 := Lib.hid (Keep.box (t := t) (v9 := .slice (some ad) 1 c) (q := W.heap.size) (hK) (by with_reducible repeat (first | exact BX0.out | exact blk_new _ _ | refine blk_alloc ?_ _ | refine blk_drewN ?_ _ | refine blk_drew ?_)) HNE.out); (try clear c0 c1 c2 c3 c4 c5 c6 c7 c8 c9 z0 z1 z2 z3 z4 z5 z6 z7 z8 z9); obtain ⟨⟨c0, c1, c2, c3, c4, c5, c6, c7, c8, c9⟩, z0, z1, z2, z3, z4, z5, z6, z7, z8, z9⟩ := z10 BX1.out; clear hI hB hK; (try clear e0 e1 e2 e3 e4 e5 e6 e7 e8 e9); obtain ⟨e0, e1, e2, e3, e4, e5, e6, e7, e8, e9⟩ := (El0_below HE.out HB1.out)) | (go_at_call 30; (fail_if_success have := HI2); (with_reducible refine (HF.out.go _ (l ++ [45]) ?si ?sb ?sl).mono ?_); (case si => exact (by with_reducible repeat (first | exact HI1.out | refine isW_alloc ?_ _ | refine isW_drewN ?_ _ | refine isW_drew ?_))); (case sb => exact (by with_reducible repeat (first | exact HB1.out | refine below_alloc ?_ _ | refine pw_below_drewN ?_ _ | refine Below.drew ?_))); (case sl => exact hl1); rintro e w2 ⟨rfl, hI, hB, hK⟩; have HI2 := Lib.hid hI; have HB2 := Lib.hid (hB); have HK2 := Lib.hid (Keep.trans (W := W.alloc (ndO t (.slice (some ad) 1 c))) (by with_reducible repeat (first | exact HK1.out | refine keep_drewN ?_ _ | refine keep_drew ?_)) (hK)); have BX2 := Lib.hid (Keep.box (t := t) (v9 := .slice (some ad) 1 c) (q := W.heap.size) (hK) (by with_reducible repeat (first | exact BX1.out | exact blk_new _ _ | refine blk_alloc ?_ _ | refine blk_drewN ?_ _ | refine blk_drew ?_)) HNE.out); (try clear c0 c1 c2 c3 c4 c5 c6 c7 c8 c9 z0 z1 z2 z3 z4 z5 z6 z7 z8 z9); obtain ⟨⟨c0, c1, c2, c3, c4, c5, c6, c7, c8, c9⟩, z0, z1, z2, z3, z4, z5, z6, z7, z8, z9⟩ := z10 BX2.out; clear hI hB hK))
  go_end0
  have e_ : (l ++ [45]) ++ out = l ++ (45 :: out) := by simp
  have HI5 := HI2.out
  rw [e_] at HI5
  exact ⟨rfl, HI5, HB2.out, ((Keep.below (below_alloc (Below.refl _ _) _)).trans HK2.out)⟩
end Go.Proofs.YtnomfbmebafolaaGreatDoor.P

namespace Go.Proofs.YtnomfbmebafolaaGreatDoor.P
open Go.RowKit Go.Proofs.YtnomfbmebafolaaGreatDoorW.PrintWords Go.Proofs.YtnomfbmebafolaaGreatDoorW.PrintLast Go.Proofs.YtnomfbmebafolaaGreatDoorW.PrintMore
open M (I64)
set_option linter.unusedVariables false
set_option linter.unusedSimpArgs false
theorem sides_calls (k : Nat) (op : ByteArray) (x y : Int) (h : print_sides.f k op = some (x, y)) (w : World) : Calls Tryz.prog 31 #[.string op] w fun e w' => e = .returned (.tuple #[.int .i64 x, .int .i64 y]) ∧ Below w.heap.size w w' :=
  (print_sides.calls k op x y w h).mono (by rintro e w' ⟨h, nd, rfl⟩; exact ⟨h, pw_below_drewN (Below.refl _ _) nd⟩)
set_option maxHeartbeats 4000000 in
set_option maxRecDepth 100000 in
theorem node_binary (t : TN) (ad : Addr) (c : Nat) (W0 : World) (b : Nat) (k : Nat) (x y : TN) (r1 r2 : Int) (o1 o2 : List UInt8) (h0 : t.f0 = 5) (h4 : t.f4 = [x, y]) (hS : print_sides.f k t.f3 = some (r1, r2)) (hV : vN (fun j => j < W0.heap.size) W0 (.slice (some ad) 2 c) t.f4) (hF1 : ∀ A9 c9, vN (fun j => j < W0.heap.size) W0 (.slice A9 x.f4.length c9) x.f4 → Writes 30 #[ptr b, ndV x (.slice A9 x.f4.length c9), .int .i64 r1] W0 b  o1) (hF2 : ∀ A9 c9, vN (fun j => j < W0.heap.size) W0 (.slice A9 y.f4.length c9) y.f4 → Writes 30 #[ptr b, ndV y (.slice A9 y.f4.length c9), .int .i64 r2] W0 b  o2) : Writes 11 #[ptr b, ndV t (.slice (some ad) 2 c)] W0 b (o1 ++ (t.f3.data.toList ++ o2)) := by
  intro W l hI hb hl
  have hu := Tryz.underlying31
  have hu2 := Tryz.underlying50
  have HI0 := Lib.hid hI
  have HB0 := Lib.hid hb
  have BX0 := Lib.hid (blk_new W (ndO t (.slice (some ad) 2 c)))
  have HK0 := Lib.hid (Keep.refl b (W.alloc (ndO t (.slice (some ad) 2 c))))
  have HNE := Lib.hid (show W.heap.size ≠ b from Nat.ne_of_gt (isW_lt hI))
  rw [h4] at hV
  obtain ⟨A9, c9, hE, hv⟩ := el_of0 (x := x) (l := [y]) hV
  obtain ⟨B9, d9, hE2, hv2⟩ := el_of1 (x := y) (y := x) hV
  have HF1 := Lib.hid (hF1 A9 c9 hv)
  have HF2 := Lib.hid (hF2 B9 d9 hv2)
  have HE1 := Lib.hid hE
  have HE2 := Lib.hid hE2
  have HS := Lib.hid hS
  have hds := data_len t.f3
  have hl0 : l.length + o1.length ≤ 100000000 := by simp only [List.length_append] at hl; omega
  have hl1 : (l ++ o1).length + t.f3.size ≤ 200000000 := by simp only [List.length_append] at hl ⊢; omega
  have hl2 : ((l ++ o1) ++ t.f3.data.toList).length + o2.length ≤ 100000000 := by simp only [List.length_append] at hl ⊢; omega
  have hk1 : (t.f0 == 1) = false := by rw [h0]; rfl
  have hk2 : (t.f0 == 2) = false := by rw [h0]; rfl
  have hk3 : (t.f0 == 3) = false := by rw [h0]; rfl
  have hk4 : (t.f0 == 4) = false := by rw [h0]; rfl
  have hk5 : (t.f0 == 5) = true := by rw [h0]; rfl
  clear hI hb hV hF1 hF2 hE hE2 hv hv2 h0 hS h4 hds
  go_enter Tryz.func11, Tryz.ntmps11
  go_wp2_with (first | (go_at_call 31; (with_reducible refine (sides_calls k _ _ _ HS.out _).mono ?_); rintro e w1 ⟨rfl, hbl⟩; have HI1 := Lib.hid (isW_below (B := W0.heap.size) (b := b) (bs := Lib.byteCells (l)) (by with_reducible repeat (first | exact HI0.out | refine isW_alloc ?_ _ | refine isW_drewN ?_ _ | refine isW_drew ?_)) hbl); have HB1 := Lib.hid (below_step (w := W0) (by with_reducible repeat (first | exact HB0.out | refine below_alloc ?_ _ | refine pw_below_drewN ?_ _ | refine Below.drew ?_)) hbl); have HK1 := Lib.hid (Keep.trans (W := W.alloc (ndO t (.slice (some ad) 2 c))) (by with_reducible repeat (first | exact HK0.out | refine keep_drewN ?_ _ | refine keep_drew ?_)) (Keep.below (b := b) hbl)); have BX1 := Lib.hid (Keep.box (t := t) (v9 := .slice (some ad) 2 c) (q := W.heap.size) (Keep.below (b := b) hbl) (by with_reducible repeat (first | exact BX0.out | exact blk_new _ _ | refine blk_alloc ?_ _ | refine blk_drewN ?_ _ | refine blk_drew ?_)) HNE.out); (try clear c0 c1 c2 c3 c4 c5 c6 c7 c8 c9 z0 z1 z2 z3 z4 z5 z6 z7 z8 z9); obtain ⟨⟨c0, c1, c2, c3, c4, c5, c6, c7, c8, c9⟩, z0, z1, z2, z3, z4, z5, z6, z7, z8, z9⟩ := z10 BX1.out; (try clear e0 e1 e2 e3 e4 e5 e6 e7 e8 e9); obtain ⟨e0, e1, e2, e3, e4, e5, e6, e7, e8, e9⟩ := (El0_below HE1.out HB1.out)) | (go_at_call 30; (fail_if_success have := HI2); (with_reducible refine (HF1.out.go _ (l) ?si ?sb ?sl).mono ?_); (case si => exact (by with_reducible repeat (first | exact HI1.out | refine isW_alloc ?_ _ | refine isW_drewN ?_ _ | refine isW_drew ?_))); (case sb => exact (by with_reducible repeat (first | exact HB1.out | refine below_alloc ?_ _ | refine pw_below_drewN ?_ _ | refine Below.drew ?_))); (case sl => exact hl0); rintro e w2 ⟨rfl, hI, hB, hK⟩; have HI2 := Lib.hid hI; have HB2 := Lib.hid (hB); have HK2 := Lib.hid (Keep.trans (W := W.alloc (ndO t (.slice (some ad) 2 c))) (by with_reducible repeat (first | exact HK1.out | refine keep_drewN ?_ _ | refine keep_drew ?_)) (hK)); have BX2 := Lib.hid (Keep.box (t := t) (v9 := .slice (some ad) 2 c) (q := W.heap.size) (hK) (by with_reducible repeat (first | exact BX1.out | exact blk_new _ _ | refine blk_alloc ?_ _ | refine blk_drewN ?_ _ | refine blk_drew ?_)) HNE.out); (try clear c0 c1 c2 c3 c4 c5 c6 c7 c8 c9 z0 z1 z2 z3 z4 z5 z6 z7 z8 z9); obtain ⟨⟨c0, c1, c2, c3, c4, c5, c6, c7, c8, c9⟩, z0, z1, z2, z3, z4, z5, z6, z7, z8, z9⟩ := z10 BX2.out; clear hI hB hK))
  go_region_with (go_at_call 27; (fail_if_success have := HI3); (with_reducible refine (w_more (B := W0.heap.size) (b := b) (l := l ++ o1) (W0 := W0) (by with_reducible repeat (first | exact HI2.out | refine isW_alloc ?_ _ | refine isW_drewN ?_ _ | refine isW_drew ?_)) rfl (by with_reducible repeat (first | exact HB2.out | refine below_alloc ?_ _ | refine pw_below_drewN ?_ _ | refine Below.drew ?_)) t.f3 ?hl).mono ?_); (case hl => exact hl1); rintro e w3 ⟨v3, rfl, hI, hB, hK⟩; have HI3 := Lib.hid hI; have HB3 := Lib.hid (hB); have HK3 := Lib.hid (Keep.trans (W := W.alloc (ndO t (.slice (some ad) 2 c))) (by with_reducible repeat (first | exact HK2.out | refine keep_drewN ?_ _ | refine keep_drew ?_)) (hK)); have BX3 := Lib.hid (Keep.box (t := t) (v9 := .slice (some ad) 2 c) (q := W.heap.size) (hK) (by with_reducible repeat (first | exact BX2.out | exact blk_new _ _ | refine blk_alloc ?_ _ | refine blk_drewN ?_ _ | refine blk_drew ?_)) HNE.out); (try clear c0 c1 c2 c3 c4 c5 c6 c7 c8 c9 z0 z1 z2 z3 z4 z5 z6 z7 z8 z9); obtain ⟨⟨c0, c1, c2, c3, c4, c5, c6, c7, c8, c9⟩, z0, z1, z2, z3, z4, z5, z6, z7, z8, z9⟩ := z10 BX3.out; clear hI hB hK; (try clear e0 e1 e2 e3 e4 e5 e6 e7 e8 e9); obtain ⟨e0, e1, e2, e3, e4, e5, e6, e7, e8, e9⟩ := (El1_below HE2.out HB3.out))
  all_goals go_wp2_with (go_at_call 30; (fail_if_success have := HI4); (with_reducible refine (HF2.out.go _ ((l ++ o1) ++ t.f3.data.toList) ?si ?sb ?sl).mono ?_); (case si => exact (by with_reducible repeat (first | exact HI3.out | refine isW_alloc ?_ _ | refine isW_drewN ?_ _ | refine isW_drew ?_))); (case sb => exact (by with_reducible repeat (first | exact HB3.out | refine below_alloc ?_ _ | refine pw_below_drewN ?_ _ | refine Below.drew ?_))); (case sl => exact hl2); rintro e w4 ⟨rfl, hI, hB, hK⟩; have HI4 := Lib.hid hI; have HB4 := Lib.hid (hB); have HK4 := Lib.hid (Keep.trans (W := W.alloc (ndO t (.slice (some ad) 2 c))) (by with_reducible repeat (first | exact HK3.out | refine keep_drewN ?_ _ | refine keep_drew ?_)) (hK)); have BX4 := Lib.hid (Keep.box (t := t) (v9 := .slice (some ad) 2 c) (q := W.heap.size) (hK) (by with_reducible repeat (first | exact BX3.out | exact blk_new _ _ | refine blk_alloc ?_ _ | refine blk_drewN ?_ _ | refine blk_drew ?_)) HNE.out); (try clear c0 c1 c2 c3 c4 c5 c6 c7 c8 c9 z0 z1 z2 z3 z4 z5 z6 z7 z8 z9); obtain ⟨⟨c0, c1, c2, c3, c4, c5, c6, c7, c8, c9⟩, z0, z1, z2, z3, z4, z5, z6, z7, z8, z9⟩ := z10 BX4.out; clear hI hB hK)
  all_goals go_end0
  all_goals have e_ : ((l ++ o1) ++ t.f3.data.toList) ++ o2 = l ++ (o1 ++ (t.f3.data.toList ++ o2)) := by simp
  all_goals have HI5 := HI4.out
  all_goals rw [e_] at HI5
  all_goals exact ⟨rfl, HI5, HB4.out, ((Keep.below (below_alloc (Below.refl _ _) _)).trans HK4.out)⟩
end Go.Proofs.YtnomfbmebafolaaGreatDoor.P

namespace Go.Proofs.YtnomfbmebafolaaGreatDoor.P
open Go.RowKit Go.Proofs.YtnomfbmebafolaaGreatDoorW.PrintWords Go.Proofs.YtnomfbmebafolaaGreatDoorW.PrintLast Go.Proofs.YtnomfbmebafolaaGreatDoorW.PrintMore
attribute [local go_sem] max2_int min2_int max_two min_two max_three min_three max_four min_four   -- for this text's walks alone
set_option linter.unusedVariables false
set_option linter.unusedSimpArgs false
mutual
def tree_depth.l0 : Nat → Int → List (S31) → Int → Int → Option (Int)
  | 0, _, _, _, _ => none
  | k + 1, x3, x7, x8, x9 => if x9 < x8 then (if 0 ≤ x9 then (if x9 < (x7.length : Int) then ((tree_depth.f k ((rd_T31 x7 x9).f0) ((rd_T31 x7 x9).f1.f0) ((rd_T31 x7 x9).f1.f1) ((rd_T31 x7 x9).f1.f2) ((rd_T31 x7 x9).f2.f0.f0) ((rd_T31 x7 x9).f2.f0.f1) ((rd_T31 x7 x9).f2.f1.f0) ((rd_T31 x7 x9).f2.f1.f1) ((rd_T31 x7 x9).f3) ((rd_T31 x7 x9).f4)).bind fun t175 => (tree_depth.l0 k (mx x3 t175) x7 x8 (wrap64 (x9 + 1)))) else (none)) else (none)) else (some (wrap64 (x3 + 1)))
def tree_depth.f : Nat → Int → Int → Int → ByteArray → Int → Int → Int → Int → ByteArray → List (S31) → Option (Int)
  | 0, _, _, _, _, _, _, _, _, _, _ => none
  | k + 1, a0_0, a0_1, a0_2, a0_3, a0_4, a0_5, a0_6, a0_7, a0_8, l0_9 => tree_depth.l0 k 0 l0_9 (l0_9.length : Int) 0
end
set_option maxHeartbeats 8000000 in
set_option maxRecDepth 100000 in
theorem tree_depth.calls (k : Nat) : ∀ (a0_0 : Int) (a0_1 : Int) (a0_2 : Int) (a0_3 : ByteArray) (a0_4 : Int) (a0_5 : Int) (a0_6 : Int) (a0_7 : Int) (a0_8 : ByteArray) (A0_9 : Option Addr) (c0_9 : Nat) (l0_9 : List (S31)) (r : Int) (w : World) (hr0_9 : Kd.C k31 w A0_9 l0_9.length l0_9) (hc0_9 : l0_9.length ≤ c0_9) (h : tree_depth.f k a0_0 a0_1 a0_2 a0_3 a0_4 a0_5 a0_6 a0_7 a0_8 l0_9 = some r),
    Calls Tryz.prog 26 #[.agg #[.int .i64 a0_0, .int .i64 a0_1, .int .i64 a0_2, .string a0_3, .int .i64 a0_4, .int .i64 a0_5, .int .i64 a0_6, .int .i64 a0_7, .string a0_8, .slice A0_9 l0_9.length c0_9]] w fun e w' => e = .returned (.int .i64 r) ∧ Below w.heap.size w w' := by
  induction k using Nat.strongRecOn with
  | _ k ih =>
  intro a0_0 a0_1 a0_2 a0_3 a0_4 a0_5 a0_6 a0_7 a0_8 A0_9 c0_9 l0_9 r w hr0_9 hc0_9 h
  cases k with
  | zero => exact absurd h (by simp [tree_depth.f])
  | succ k =>
  simp only [tree_depth.f] at h
  have hu31 := Tryz.underlying31
  have HR0_9 := Aside0.mk hr0_9
  have HC0_9 := Aside0.mk hc0_9
  clear hr0_9 hc0_9
  have HB := Aside0.mk (Below.refl w.heap.size w)
  have H : (tree_depth.l0 k 0 l0_9 (l0_9.length : Int) 0) = some r := h
  clear h
  have H' := Aside0.mk H
  clear H
  go_enter Tryz.func26, Tryz.ntmps26
  go_wp2_with (first | ((with_reducible refine gate_dst (N := 1) rfl ?_); refine box_event ?hg (N := 1) ?hd (cs := #[.int .i64 a0_0, .int .i64 a0_1, .int .i64 a0_2, .string a0_3, .int .i64 a0_4, .int .i64 a0_5, .int .i64 a0_6, .int .i64 a0_7, .string a0_8, .slice A0_9 l0_9.length c0_9]) (t := 31) ?hr ?_; (case hd => rfl); (case hg => rfl); (case hr => first | (go_simp; done) | (go_simp; rfl)); intro gb172 hg w2 hbox hb; have n0_ := Aside0.mk (below_step (by repeat first | with_reducible exact HB.out | apply zS | exact HB.out) hb); have n1_ := Aside0.mk (hbox); have n2_ := Aside0.mk ((by rw [hg]; exact (below_size (by repeat first | with_reducible exact HB.out | apply zS | exact HB.out)) : w.heap.size ≤ gb172)); have n3_ := n2_; clear HB; have HB := n0_; have BK172 := n1_; have GW172 := n2_; have GE172 := n3_; clear n0_ n1_ n2_ n3_; clear hb hbox hg; obtain ⟨hcz3_0, hcz3_1, hcz3_2, hcz3_3, hcz3_4, hcz3_5, hcz3_6, hcz3_7, hcz3_8, hcz3_9, hfz3_0, hfz3_1, hfz3_2, hfz3_3, hfz3_4, hfz3_5, hfz3_6, hfz3_7, hfz3_8, hfz3_9⟩ := zC10 BK172.out))
  go_loopg [3, 9] k (fun kq v3 v9 w' => ∃ (x3_1 : Int) (x9_1 : Int), v3 = .int .i64 x3_1 ∧ v9 = .int .i64 x9_1 ∧ Aside0 (tree_depth.l0 kq x3_1 l0_9 (l0_9.length : Int) x9_1 = some r) ∧ Aside0 (kq ≤ k) ∧ Aside0 (w'.heap[gb172]? = some (.cells #[.int .i64 a0_0, .int .i64 a0_1, .int .i64 a0_2, .string a0_3, .int .i64 a0_4, .int .i64 a0_5, .int .i64 a0_6, .int .i64 a0_7, .string a0_8, (.slice A0_9 l0_9.length c0_9)] 31 (0, 0))) ∧ Aside0 (Below w.heap.size w w'))
  case atStart => exact ⟨(0), (0), (by first | rfl | (simp; done) | (simp [*]; done)), (by first | rfl | (simp; done) | (simp [*]; done)), H', ⟨Nat.le_refl _⟩, ⟨by exact zB BK172.out⟩, ⟨by repeat first | with_reducible exact HB.out | apply zS | refine below_set ?_ GE172.out | exact HB.out⟩⟩
  case round =>
    clear H'
    try clear c2
    try clear p2
    try clear hcz3_0
    try clear hcz3_1
    try clear hcz3_2
    try clear hcz3_3
    try clear hcz3_4
    try clear hcz3_5
    try clear hcz3_6
    try clear hcz3_7
    try clear hcz3_8
    try clear hcz3_9
    try clear hfz3_0
    try clear hfz3_1
    try clear hfz3_2
    try clear hfz3_3
    try clear hfz3_4
    try clear hfz3_5
    try clear hfz3_6
    try clear hfz3_7
    try clear hfz3_8
    try clear hfz3_9
    obtain ⟨x3_1, x9_1, rfl, rfl, HA, HK1, BK172, HB⟩ := hrel
    cases gk with
    | zero => exact absurd HA.out (by simp [tree_depth.l0])
    | succ k1 =>
      have H := HA.out
      clear HA
      simp only [tree_depth.l0] at H
      by_cases c4 : x9_1 < (l0_9.length : Int)
      · rw [if_pos c4] at H
        have c4b0 : decide (x9_1 < (l0_9.length : Int)) = true := decide_eq_true c4
        clear c4
        by_cases c5 : 0 ≤ x9_1
        · rw [if_pos c5] at H
          have c5b0 : decide (0 ≤ x9_1) = true := decide_eq_true c5
          clear c5
          by_cases c6 : x9_1 < (l0_9.length : Int)
          · rw [if_pos c6] at H
            have c6b0 : decide (x9_1 < (l0_9.length : Int)) = true := decide_eq_true c6
            clear c6
            replace H := Option.bind_eq_some_iff.mp H
            obtain ⟨t175, A70, H⟩ := H
            replace H : (tree_depth.l0 k1 (mx x3_1 t175) l0_9 (l0_9.length : Int) (wrap64 (x9_1 + 1))) = some r := H
            have A7 := Aside0.mk A70
            clear A70
            obtain ⟨ji8, hji8⟩ : ∃ j_ : Int, (mx x3_1 t175) = j_ := ⟨_, rfl⟩
            replace H : (tree_depth.l0 k1 ji8 l0_9 (l0_9.length : Int) (wrap64 (x9_1 + 1))) = some r := by first | (rw [hji8] at H; exact H) | (simp only [hji8] at H ⊢; exact H)
            (try rw [hji8] at A7)
            have hji8_ : (if x3_1 < t175 then t175 else x3_1) = ji8 := hji8
            have H' := Aside0.mk H
            clear H
            have p173 : 0 ≤ (x9_1 : Int) := of_decide_eq_true (by first | (with_reducible assumption) | assumption)
            have q173 : x9_1 < (l0_9.length : Int) := of_decide_eq_true (by first | (with_reducible assumption) | assumption)
            obtain ⟨ad173, A173_9, c173_9, e173, hx173_0, hx173_1, hx173_2, hx173_3, hx173_4, hx173_5, hx173_6, hx173_7, hx173_8, hx173_9, hl173_9, hi173_9⟩ := at_T31 HR0_9.out x9_1 p173 q173
            cases e173
            replace hx173_0 := (HB.out.cell (World.block_lt_of_cell? w _ hx173_0)).trans hx173_0
            replace hx173_1 := (HB.out.cell (World.block_lt_of_cell? w _ hx173_1)).trans hx173_1
            replace hx173_2 := (HB.out.cell (World.block_lt_of_cell? w _ hx173_2)).trans hx173_2
            replace hx173_3 := (HB.out.cell (World.block_lt_of_cell? w _ hx173_3)).trans hx173_3
            replace hx173_4 := (HB.out.cell (World.block_lt_of_cell? w _ hx173_4)).trans hx173_4
            replace hx173_5 := (HB.out.cell (World.block_lt_of_cell? w _ hx173_5)).trans hx173_5
            replace hx173_6 := (HB.out.cell (World.block_lt_of_cell? w _ hx173_6)).trans hx173_6
            replace hx173_7 := (HB.out.cell (World.block_lt_of_cell? w _ hx173_7)).trans hx173_7
            replace hx173_8 := (HB.out.cell (World.block_lt_of_cell? w _ hx173_8)).trans hx173_8
            replace hx173_9 := (HB.out.cell (World.block_lt_of_cell? w _ hx173_9)).trans hx173_9
            have HR173_9 := Aside0.mk hi173_9
            have HC173_9 := Aside0.mk hl173_9
            clear hi173_9 hl173_9
            replace p173 := eq_true p173
            replace q173 := eq_true q173
            go_wp2_with (first | ((with_reducible refine gate_dst (N := 5) rfl ?_); refine box_event ?hg (N := 5) ?hd (cs := #[.int .i64 0, .int .i64 0, .int .i64 0, .string (⟨#[]⟩ : ByteArray), .int .i64 0, .int .i64 0, .int .i64 0, .int .i64 0, .string (⟨#[]⟩ : ByteArray), .slice none 0 0]) (t := 31) ?hr ?_; (case hd => rfl); (case hg => rfl); (case hr => first | (go_simp; done) | (go_simp; rfl)); intro gb174 hg w9 hbox hb; have n0_ := Aside0.mk (blk_below (g := gb172) (o := .cells #[.int .i64 a0_0, .int .i64 a0_1, .int .i64 a0_2, .string a0_3, .int .i64 a0_4, .int .i64 a0_5, .int .i64 a0_6, .int .i64 a0_7, .string a0_8, .slice (some ad173) l0_9.length c0_9] 31 (0, 0)) (zB BK172.out) hb); have n1_ := Aside0.mk (below_step (by repeat first | with_reducible exact HB.out | apply zS | refine below_set ?_ GE172.out | exact HB.out) hb); have n2_ := Aside0.mk (hbox); have n3_ := Aside0.mk ((by rw [hg]; exact (below_size (by repeat first | with_reducible exact HB.out | apply zS | refine below_set ?_ GE172.out | exact HB.out)) : w.heap.size ≤ gb174)); have n4_ := n3_; have n5_ := Aside0.mk ((by rw [hg]; exact Nat.ne_of_lt (blk_lt (g := gb172) (o := .cells #[.int .i64 a0_0, .int .i64 a0_1, .int .i64 a0_2, .string a0_3, .int .i64 a0_4, .int .i64 a0_5, .int .i64 a0_6, .int .i64 a0_7, .string a0_8, .slice (some ad173) l0_9.length c0_9] 31 (0, 0)) (zB BK172.out)) : gb172 ≠ gb174)); have n6_ := Aside0.mk ((by rw [hg]; exact Nat.ne_of_gt (blk_lt (g := gb172) (o := .cells #[.int .i64 a0_0, .int .i64 a0_1, .int .i64 a0_2, .string a0_3, .int .i64 a0_4, .int .i64 a0_5, .int .i64 a0_6, .int .i64 a0_7, .string a0_8, .slice (some ad173) l0_9.length c0_9] 31 (0, 0)) (zB BK172.out)) : gb174 ≠ gb172)); clear BK172; clear HB; have BK172 := n0_; have HB := n1_; have BK174 := n2_; have GW174 := n3_; have GE174 := n4_; have NB172_174 := n5_; have NB174_172 := n6_; clear n0_ n1_ n2_ n3_ n4_ n5_ n6_; clear hb hbox hg; have hnb10 := NB174_172.out; have hnc10 := NB172_174.out; obtain ⟨hcz11_0, hcz11_1, hcz11_2, hcz11_3, hcz11_4, hcz11_5, hcz11_6, hcz11_7, hcz11_8, hcz11_9, hfz11_0, hfz11_1, hfz11_2, hfz11_3, hfz11_4, hfz11_5, hfz11_6, hfz11_7, hfz11_8, hfz11_9⟩ := zC10 BK174.out) | ((with_reducible refine gate_callee (f := 26) rfl ?_); refine goesL_ (some 15) rfl rfl Tryz.func26 (by kernel_rfl) rfl #[.agg #[.int .i64 ((rd_T31 l0_9 x9_1).f0), .int .i64 ((rd_T31 l0_9 x9_1).f1.f0), .int .i64 ((rd_T31 l0_9 x9_1).f1.f1), .string ((rd_T31 l0_9 x9_1).f1.f2), .int .i64 ((rd_T31 l0_9 x9_1).f2.f0.f0), .int .i64 ((rd_T31 l0_9 x9_1).f2.f0.f1), .int .i64 ((rd_T31 l0_9 x9_1).f2.f1.f0), .int .i64 ((rd_T31 l0_9 x9_1).f2.f1.f1), .string ((rd_T31 l0_9 x9_1).f3), .slice A173_9 ((rd_T31 l0_9 x9_1).f4).length c173_9]] rfl (by (try simp only [List.map_toArray, List.map_cons, List.map_nil]); first | done | rfl | (simp only [List.length_drop, List.length_take]; rfl)) ?_; (with_reducible refine (ih k1 (by have := HK1.out; omega) ((rd_T31 l0_9 x9_1).f0) ((rd_T31 l0_9 x9_1).f1.f0) ((rd_T31 l0_9 x9_1).f1.f1) ((rd_T31 l0_9 x9_1).f1.f2) ((rd_T31 l0_9 x9_1).f2.f0.f0) ((rd_T31 l0_9 x9_1).f2.f0.f1) ((rd_T31 l0_9 x9_1).f2.f1.f0) ((rd_T31 l0_9 x9_1).f2.f1.f1) ((rd_T31 l0_9 x9_1).f3) _ _ ((rd_T31 l0_9 x9_1).f4) t175 _ ?side1 ?side2 A7.out).mono ?_); (case side1 => exact Kd.C_below HR173_9.out (by repeat first | with_reducible exact HB.out | apply zS | refine below_set ?_ GE172.out | refine below_set ?_ GE174.out | exact HB.out)); (case side2 => exact HC173_9.out); rintro e w12 ⟨rfl, hb⟩; refine ⟨_, rfl, ?_⟩; have n0_ := Aside0.mk (blk_below (g := gb172) (o := .cells #[.int .i64 a0_0, .int .i64 a0_1, .int .i64 a0_2, .string a0_3, .int .i64 a0_4, .int .i64 a0_5, .int .i64 a0_6, .int .i64 a0_7, .string a0_8, .slice (some ad173) l0_9.length c0_9] 31 (0, 0)) (by refine zB (blk_far ?_ NB172_174.out _); refine zB ?_; refine blk_far ?_ NB172_174.out _; refine zB (blk_far ?_ NB172_174.out _); refine zB ?_; refine blk_far ?_ NB172_174.out _; refine zB (blk_far ?_ NB172_174.out _); refine zB ?_; refine blk_far ?_ NB172_174.out _; refine zB (blk_far ?_ NB172_174.out _); refine zB ?_; refine blk_far ?_ NB172_174.out _; refine zB (blk_far ?_ NB172_174.out _); refine zB (blk_far ?_ NB172_174.out _); refine zB ?_; exact BK172.out) hb); have n1_ := Aside0.mk (blk_below (g := gb174) (o := .cells #[.int .i64 ((rd_T31 l0_9 x9_1).f0), .int .i64 ((rd_T31 l0_9 x9_1).f1.f0), .int .i64 ((rd_T31 l0_9 x9_1).f1.f1), .string ((rd_T31 l0_9 x9_1).f1.f2), .int .i64 ((rd_T31 l0_9 x9_1).f2.f0.f0), .int .i64 ((rd_T31 l0_9 x9_1).f2.f0.f1), .int .i64 ((rd_T31 l0_9 x9_1).f2.f1.f0), .int .i64 ((rd_T31 l0_9 x9_1).f2.f1.f1), .string ((rd_T31 l0_9 x9_1).f3), .slice A173_9 ((rd_T31 l0_9 x9_1).f4).length c173_9] 31 (0, 0)) (by refine zB ?_; refine blk_put (cs := #[.int .i64 ((rd_T31 l0_9 x9_1).f0), .int .i64 ((rd_T31 l0_9 x9_1).f1.f0), .int .i64 ((rd_T31 l0_9 x9_1).f1.f1), .string ((rd_T31 l0_9 x9_1).f1.f2), .int .i64 ((rd_T31 l0_9 x9_1).f2.f0.f0), .int .i64 ((rd_T31 l0_9 x9_1).f2.f0.f1), .int .i64 ((rd_T31 l0_9 x9_1).f2.f1.f0), .int .i64 ((rd_T31 l0_9 x9_1).f2.f1.f1), .string ((rd_T31 l0_9 x9_1).f3), .slice none 0 0]) ?_ 9 _ rfl; refine zB ?_; refine blk_put (cs := #[.int .i64 ((rd_T31 l0_9 x9_1).f0), .int .i64 ((rd_T31 l0_9 x9_1).f1.f0), .int .i64 ((rd_T31 l0_9 x9_1).f1.f1), .string ((rd_T31 l0_9 x9_1).f1.f2), .int .i64 ((rd_T31 l0_9 x9_1).f2.f0.f0), .int .i64 ((rd_T31 l0_9 x9_1).f2.f0.f1), .int .i64 ((rd_T31 l0_9 x9_1).f2.f1.f0), .int .i64 ((rd_T31 l0_9 x9_1).f2.f1.f1), .string (⟨#[]⟩ : ByteArray), .slice none 0 0]) ?_ 8 _ rfl; refine zB ?_; refine blk_put (cs := #[.int .i64 ((rd_T31 l0_9 x9_1).f0), .int .i64 ((rd_T31 l0_9 x9_1).f1.f0), .int .i64 ((rd_T31 l0_9 x9_1).f1.f1), .string ((rd_T31 l0_9 x9_1).f1.f2), .int .i64 ((rd_T31 l0_9 x9_1).f2.f0.f0), .int .i64 ((rd_T31 l0_9 x9_1).f2.f0.f1), .int .i64 ((rd_T31 l0_9 x9_1).f2.f1.f0), .int .i64 0, .string (⟨#[]⟩ : ByteArray), .slice none 0 0]) ?_ 7 _ rfl; refine zB ?_; refine blk_put (cs := #[.int .i64 ((rd_T31 l0_9 x9_1).f0), .int .i64 ((rd_T31 l0_9 x9_1).f1.f0), .int .i64 ((rd_T31 l0_9 x9_1).f1.f1), .string ((rd_T31 l0_9 x9_1).f1.f2), .int .i64 ((rd_T31 l0_9 x9_1).f2.f0.f0), .int .i64 ((rd_T31 l0_9 x9_1).f2.f0.f1), .int .i64 0, .int .i64 0, .string (⟨#[]⟩ : ByteArray), .slice none 0 0]) ?_ 6 _ rfl; refine zB ?_; refine blk_put (cs := #[.int .i64 ((rd_T31 l0_9 x9_1).f0), .int .i64 ((rd_T31 l0_9 x9_1).f1.f0), .int .i64 ((rd_T31 l0_9 x9_1).f1.f1), .string ((rd_T31 l0_9 x9_1).f1.f2), .int .i64 ((rd_T31 l0_9 x9_1).f2.f0.f0), .int .i64 0, .int .i64 0, .int .i64 0, .string (⟨#[]⟩ : ByteArray), .slice none 0 0]) ?_ 5 _ rfl; refine zB ?_; refine blk_put (cs := #[.int .i64 ((rd_T31 l0_9 x9_1).f0), .int .i64 ((rd_T31 l0_9 x9_1).f1.f0), .int .i64 ((rd_T31 l0_9 x9_1).f1.f1), .string ((rd_T31 l0_9 x9_1).f1.f2), .int .i64 0, .int .i64 0, .int .i64 0, .int .i64 0, .string (⟨#[]⟩ : ByteArray), .slice none 0 0]) ?_ 4 _ rfl; refine zB ?_; refine blk_put (cs := #[.int .i64 ((rd_T31 l0_9 x9_1).f0), .int .i64 ((rd_T31 l0_9 x9_1).f1.f0), .int .i64 ((rd_T31 l0_9 x9_1).f1.f1), .string (⟨#[]⟩ : ByteArray), .int .i64 0, .int .i64 0, .int .i64 0, .int .i64 0, .string (⟨#[]⟩ : ByteArray), .slice none 0 0]) ?_ 3 _ rfl; refine zB ?_; refine blk_put (cs := #[.int .i64 ((rd_T31 l0_9 x9_1).f0), .int .i64 ((rd_T31 l0_9 x9_1).f1.f0), .int .i64 0, .string (⟨#[]⟩ : ByteArray), .int .i64 0, .int .i64 0, .int .i64 0, .int .i64 0, .string (⟨#[]⟩ : ByteArray), .slice none 0 0]) ?_ 2 _ rfl; refine zB ?_; refine blk_put (cs := #[.int .i64 ((rd_T31 l0_9 x9_1).f0), .int .i64 0, .int .i64 0, .string (⟨#[]⟩ : ByteArray), .int .i64 0, .int .i64 0, .int .i64 0, .int .i64 0, .string (⟨#[]⟩ : ByteArray), .slice none 0 0]) ?_ 1 _ rfl; refine zB ?_; refine blk_put (cs := #[.int .i64 0, .int .i64 0, .int .i64 0, .string (⟨#[]⟩ : ByteArray), .int .i64 0, .int .i64 0, .int .i64 0, .int .i64 0, .string (⟨#[]⟩ : ByteArray), .slice none 0 0]) ?_ 0 _ rfl; refine zB ?_; exact BK174.out) hb); have n2_ := Aside0.mk (below_step (by repeat first | with_reducible exact HB.out | apply zS | refine below_set ?_ GE172.out | refine below_set ?_ GE174.out | exact HB.out) hb); clear BK172; clear BK174; clear HB; have BK172 := n0_; have BK174 := n1_; have HB := n2_; clear n0_ n1_ n2_; (try clear hb); (try clear hb2); (try clear hk); (try clear hi)))
            go_roundg k1
            case measure => have := HK1.out; omega
            case rel => exact ⟨(ji8), (wrap64 (x9_1 + 1)), (by first | rfl | (simp; done) | (simp only [← hji8] <;> (first | rfl | simp)) | (simp [*]; done)), (by first | rfl | (simp; done) | (simp [*]; done)), H', ⟨by have := HK1.out; omega⟩, ⟨by exact zB BK172.out⟩, ⟨by repeat first | with_reducible exact HB.out | apply zS | refine below_set ?_ GE172.out | refine below_set ?_ GE174.out | exact HB.out⟩⟩
          · rw [if_neg c6] at H
            exact absurd H (by simp)
        · rw [if_neg c5] at H
          exact absurd H (by simp)
      · rw [if_neg c4] at H
        have c4b0 : decide (x9_1 < (l0_9.length : Int)) = false := decide_eq_false c4
        clear c4
        obtain rfl := Option.some.inj H
        go_wp2
        go_ret
        exact ⟨by first | rfl | (simp [errW_none, errW_some] <;> rfl) | (simp [*, errW_none, errW_some] <;> rfl), by repeat first | with_reducible exact HB.out | apply zS | refine below_set ?_ GE172.out | exact HB.out⟩
end Go.Proofs.YtnomfbmebafolaaGreatDoor.P

namespace Go.Proofs.YtnomfbmebafolaaGreatDoor.P
open Go.RowKit Go.Proofs.YtnomfbmebafolaaGreatDoorW.PrintWords Go.Proofs.YtnomfbmebafolaaGreatDoorW.PrintLast Go.Proofs.YtnomfbmebafolaaGreatDoorW.PrintMore
open M (I64)
set_option linter.unusedVariables false
set_option linter.unusedSimpArgs false
set_option maxHeartbeats 8000000 in
set_option maxRecDepth 100000 in
theorem unary_deep (toks : List Tok) (en i : Int) (n : Nat) (hd : 40 < i) : Does 125 toks en i n (.bad 0 14, n) := by
  intro g W hp
  have hu := Tryz.underlying31
  have HG := Lib.hid hp.lt
  have HP0 := Lib.hid (hp.alloc nd0)
  have HB0 := Lib.hid (Bu.refl g (W.alloc nd0))
  have BK0 := Lib.hid (blk_new W nd0)
  have HPW := Lib.hid hp
  clear hp
  have HD := Lib.hid hd
  clear hd
  go_enter Tryz.func125, Tryz.ntmps125
  go_wp2_with (first | (go_at_call 73; (with_reducible refine (deep_yes _ _ HD.out).mono ?_); rintro e w1 ⟨q, rfl, he, hq, hbl⟩; have HE := Lib.hid he; have HQ := Lib.hid (lo (g := g) (o := nd0) (W := W) (Uq2 HB0.out) hq); have hb := Bu.of_below (g := g) hbl; have hp := PS.below (g := g) (toks := toks) (en := en) (at_ := (n : Int)) (Uq1 HP0.out) hbl; clear he hq hbl; have HP1 := Lib.hid hp; have HB1 := Lib.hid (Bu.trans (g := g) (a := W.alloc nd0) (Uq2 HB0.out) hb); have BK1 := Lib.hid (hb.blk (k := W.heap.size) (o := nd0) (Uq3 BK0.out) (Nat.ne_of_gt HG.out)); clear hp hb; (try clear c0 c1 c2 c3 c4 c5 c6 c7 c8 c9 z0 z1 z2 z3 z4 z5 z6 z7 z8 z9 hsz); obtain ⟨⟨c0, c1, c2, c3, c4, c5, c6, c7, c8, c9⟩, z0, z1, z2, z3, z4, z5, z6, z7, z8, z9⟩ := z10 BK1.out; have hsz : W.heap.size < w1.heap.size := blk_lt BK1.out; have HZ1 := Lib.hid hsz))
  refine bodyPost_ret (results_ct rfl _ _ W.heap.size 31 _ (0, 0) _ rfl (Uq4 BK1.out) hu rfl (by kernel_rfl)) rfl ?_
  refine ⟨?_, ?_, q, ?_, ?_, Nat.le_of_lt HQ.out⟩
  · exact (Uq5 HP1.out)
  · exact (Uq6 HB1.out)
  · rfl
  · exact (Uq7 HE.out)
set_option maxHeartbeats 8000000 in
set_option maxRecDepth 100000 in
theorem power_deep (toks : List Tok) (en i : Int) (n : Nat) (hd : 40 < i) : Does 109 toks en i n (.bad 0 14, n) := by
  intro g W hp
  have hu := Tryz.underlying31
  have HG := Lib.hid hp.lt
  have HP0 := Lib.hid (hp.alloc nd0)
  have HB0 := Lib.hid (Bu.refl g (W.alloc nd0))
  have BK0 := Lib.hid (blk_new W nd0)
  have HPW := Lib.hid hp
  clear hp
  have HD := Lib.hid hd
  clear hd
  go_enter Tryz.func109, Tryz.ntmps109
  go_wp2_with (first | (go_at_call 73; (with_reducible refine (deep_yes _ _ HD.out).mono ?_); rintro e w1 ⟨q, rfl, he, hq, hbl⟩; have HE := Lib.hid he; have HQ := Lib.hid (lo (g := g) (o := nd0) (W := W) (Uq2 HB0.out) hq); have hb := Bu.of_below (g := g) hbl; have hp := PS.below (g := g) (toks := toks) (en := en) (at_ := (n : Int)) (Uq1 HP0.out) hbl; clear he hq hbl; have HP1 := Lib.hid hp; have HB1 := Lib.hid (Bu.trans (g := g) (a := W.alloc nd0) (Uq2 HB0.out) hb); have BK1 := Lib.hid (hb.blk (k := W.heap.size) (o := nd0) (Uq3 BK0.out) (Nat.ne_of_gt HG.out)); clear hp hb; (try clear c0 c1 c2 c3 c4 c5 c6 c7 c8 c9 z0 z1 z2 z3 z4 z5 z6 z7 z8 z9 hsz); obtain ⟨⟨c0, c1, c2, c3, c4, c5, c6, c7, c8, c9⟩, z0, z1, z2, z3, z4, z5, z6, z7, z8, z9⟩ := z10 BK1.out; have hsz : W.heap.size < w1.heap.size := blk_lt BK1.out; have HZ1 := Lib.hid hsz))
  refine bodyPost_ret (results_ct rfl _ _ W.heap.size 31 _ (0, 0) _ rfl (Uq4 BK1.out) hu rfl (by kernel_rfl)) rfl ?_
  refine ⟨?_, ?_, q, ?_, ?_, Nat.le_of_lt HQ.out⟩
  · exact (Uq5 HP1.out)
  · exact (Uq6 HB1.out)
  · rfl
  · exact (Uq7 HE.out)
set_option maxHeartbeats 8000000 in
set_option maxRecDepth 100000 in
theorem formula_deep (toks : List Tok) (en i : Int) (n : Nat) (hd : 40 < i) : Does 51 toks en i n (.bad 0 14, n) := by
  intro g W hp
  have hu := Tryz.underlying31
  have HG := Lib.hid hp.lt
  have HP0 := Lib.hid (hp.alloc nd0)
  have HB0 := Lib.hid (Bu.refl g (W.alloc nd0))
  have BK0 := Lib.hid (blk_new W nd0)
  have HPW := Lib.hid hp
  clear hp
  have HD := Lib.hid hd
  clear hd
  go_enter Tryz.func51, Tryz.ntmps51
  go_wp2_with (first | (go_at_call 73; (with_reducible refine (deep_yes _ _ HD.out).mono ?_); rintro e w1 ⟨q, rfl, he, hq, hbl⟩; have HE := Lib.hid he; have HQ := Lib.hid (lo (g := g) (o := nd0) (W := W) (Uq2 HB0.out) hq); have hb := Bu.of_below (g := g) hbl; have hp := PS.below (g := g) (toks := toks) (en := en) (at_ := (n : Int)) (Uq1 HP0.out) hbl; clear he hq hbl; have HP1 := Lib.hid hp; have HB1 := Lib.hid (Bu.trans (g := g) (a := W.alloc nd0) (Uq2 HB0.out) hb); have BK1 := Lib.hid (hb.blk (k := W.heap.size) (o := nd0) (Uq3 BK0.out) (Nat.ne_of_gt HG.out)); clear hp hb; (try clear c0 c1 c2 c3 c4 c5 c6 c7 c8 c9 z0 z1 z2 z3 z4 z5 z6 z7 z8 z9 hsz); obtain ⟨⟨c0, c1, c2, c3, c4, c5, c6, c7, c8, c9⟩, z0, z1, z2, z3, z4, z5, z6, z7, z8, z9⟩ := z10 BK1.out; have hsz : W.heap.size < w1.heap.size := blk_lt BK1.out; have HZ1 := Lib.hid hsz))
  refine bodyPost_ret (results_ct rfl _ _ W.heap.size 31 _ (0, 0) _ rfl (Uq4 BK1.out) hu rfl (by kernel_rfl)) rfl ?_
  refine ⟨?_, ?_, q, ?_, ?_, Nat.le_of_lt HQ.out⟩
  · exact (Uq5 HP1.out)
  · exact (Uq6 HB1.out)
  · rfl
  · exact (Uq7 HE.out)
set_option maxHeartbeats 8000000 in
set_option maxRecDepth 100000 in
theorem unary_pbad (toks : List Tok) (en i : Int) (n : Nat) (n2 : Nat) (p c : Int) (hd : ¬ 40 < i) (hi : 0 ≤ i) (s : ByteArray) (n1 : Nat) (hs : signV toks n [⟨#[45]⟩] = (s, false, n1)) (hn : n ≤ toks.length) (hlen : toks.length ≤ 1000000) (hf : Does 132 toks en i n1 (.bad p c, n2)) : Does 125 toks en i n (.bad p c, n2) := by
  intro g W hp
  have hu := Tryz.underlying31
  have HG := Lib.hid hp.lt
  have HP0 := Lib.hid (hp.alloc nd0)
  have HB0 := Lib.hid (Bu.refl g (W.alloc nd0))
  have BK0 := Lib.hid (blk_new W nd0)
  have HPW := Lib.hid hp
  clear hp
  have HD := Lib.hid hd
  have HF := Lib.hid hf
  have HS := Lib.hid hs
  have HN := Lib.hid hn
  have HLEN := Lib.hid hlen
  clear hd hf hs hn hlen
  clear hi
  go_enter Tryz.func125, Tryz.ntmps125
  go_wp2_with (first | (go_at_call 73; (with_reducible refine (deep_no _ _ HD.out).mono ?_); rintro e w1 ⟨rfl, hbl⟩; have hb := Bu.of_below (g := g) hbl; have hp := PS.below (g := g) (toks := toks) (en := en) (at_ := (n : Int)) (Uq1 HP0.out) hbl; clear hbl; have HP1 := Lib.hid hp; have HB1 := Lib.hid (Bu.trans (g := g) (a := W.alloc nd0) (Uq2 HB0.out) hb); have BK1 := Lib.hid (hb.blk (k := W.heap.size) (o := nd0) (Uq3 BK0.out) (Nat.ne_of_gt HG.out)); clear hp hb; (try clear c0 c1 c2 c3 c4 c5 c6 c7 c8 c9 z0 z1 z2 z3 z4 z5 z6 z7 z8 z9 hsz); obtain ⟨⟨c0, c1, c2, c3, c4, c5, c6, c7, c8, c9⟩, z0, z1, z2, z3, z4, z5, z6, z7, z8, z9⟩ := z10 BK1.out; have hsz : W.heap.size < w1.heap.size := blk_lt BK1.out; have HZ1 := Lib.hid hsz) | (go_at_call 75; (with_reducible refine (sign_of g toks en _ HN.out _ _ _ _ _ _ _ HS.out ?s1 HLEN.out _ ?sp ?s2 ?s3 ?s4).mono ?_); (case sp => exact (Uq1 HP1.out)); (case s1 => decide); (case s2 => exact strC_new (by simp) rfl (by decide)); (case s3 => decide); (case s4 => rfl); rintro e w2 ⟨rfl, hp, hb⟩; have HP2 := Lib.hid hp; have HB2 := Lib.hid (Bu.trans (g := g) (a := W.alloc nd0) (Uq2 HB1.out) hb); have BK2 := Lib.hid (hb.blk (k := W.heap.size) (o := nd0) (Uq3 BK1.out) (Nat.ne_of_gt HG.out)); clear hp hb; (try clear c0 c1 c2 c3 c4 c5 c6 c7 c8 c9 z0 z1 z2 z3 z4 z5 z6 z7 z8 z9 hsz); obtain ⟨⟨c0, c1, c2, c3, c4, c5, c6, c7, c8, c9⟩, z0, z1, z2, z3, z4, z5, z6, z7, z8, z9⟩ := z10 BK2.out; have hsz : W.heap.size < w2.heap.size := blk_lt BK2.out; have HZ2 := Lib.hid hsz) | (go_at_call 132; (with_reducible refine (HF.out.bad g _ ?sp).mono ?_); (case sp => exact (Uq1 HP2.out)); rintro e w3 ⟨hp, hb, q, rfl, he, hq⟩; have HE := Lib.hid he; have HQ := Lib.hid (lo (g := g) (o := nd0) (W := W) (Uq2 HB2.out) hq); clear he hq; have HP3 := Lib.hid hp; have HB3 := Lib.hid (Bu.trans (g := g) (a := W.alloc nd0) (Uq2 HB2.out) hb); have BK3 := Lib.hid (hb.blk (k := W.heap.size) (o := nd0) (Uq3 BK2.out) (Nat.ne_of_gt HG.out)); clear hp hb; (try clear c0 c1 c2 c3 c4 c5 c6 c7 c8 c9 z0 z1 z2 z3 z4 z5 z6 z7 z8 z9 hsz); obtain ⟨⟨c0, c1, c2, c3, c4, c5, c6, c7, c8, c9⟩, z0, z1, z2, z3, z4, z5, z6, z7, z8, z9⟩ := z10 BK3.out; have hsz : W.heap.size < w3.heap.size := blk_lt BK3.out; have HZ3 := Lib.hid hsz))
  refine bodyPost_ret (results_ct rfl _ _ W.heap.size 31 _ (0, 0) _ rfl (Uq4 BK3.out) hu rfl (by kernel_rfl)) rfl ?_
  refine ⟨?_, ?_, q, ?_, ?_, Nat.le_of_lt HQ.out⟩
  · exact (Uq5 HP3.out)
  · exact (Uq6 HB3.out)
  · rfl
  · exact (Uq7 HE.out)
set_option maxHeartbeats 8000000 in
set_option maxRecDepth 100000 in
theorem unary_pok (toks : List Tok) (en i : Int) (n : Nat) (n2 : Nat) (a : TN) (hd : ¬ 40 < i) (hi : 0 ≤ i) (s : ByteArray) (n1 : Nat) (hs : signV toks n [⟨#[45]⟩] = (s, false, n1)) (hn : n ≤ toks.length) (hlen : toks.length ≤ 1000000) (hf : Does 132 toks en i n1 (.ok a, n2)) : Does 125 toks en i n (.ok a, n2) := by
  intro g W hp
  have hu := Tryz.underlying31
  have HG := Lib.hid hp.lt
  have HP0 := Lib.hid (hp.alloc nd0)
  have HB0 := Lib.hid (Bu.refl g (W.alloc nd0))
  have BK0 := Lib.hid (blk_new W nd0)
  have HPW := Lib.hid hp
  clear hp
  have HD := Lib.hid hd
  have HF := Lib.hid hf
  have HS := Lib.hid hs
  have HN := Lib.hid hn
  have HLEN := Lib.hid hlen
  clear hd hf hs hn hlen
  clear hi
  go_enter Tryz.func125, Tryz.ntmps125
  go_wp2_with (first | (go_at_call 73; (with_reducible refine (deep_no _ _ HD.out).mono ?_); rintro e w1 ⟨rfl, hbl⟩; have hb := Bu.of_below (g := g) hbl; have hp := PS.below (g := g) (toks := toks) (en := en) (at_ := (n : Int)) (Uq1 HP0.out) hbl; clear hbl; have HP1 := Lib.hid hp; have HB1 := Lib.hid (Bu.trans (g := g) (a := W.alloc nd0) (Uq2 HB0.out) hb); have BK1 := Lib.hid (hb.blk (k := W.heap.size) (o := nd0) (Uq3 BK0.out) (Nat.ne_of_gt HG.out)); clear hp hb; (try clear c0 c1 c2 c3 c4 c5 c6 c7 c8 c9 z0 z1 z2 z3 z4 z5 z6 z7 z8 z9 hsz); obtain ⟨⟨c0, c1, c2, c3, c4, c5, c6, c7, c8, c9⟩, z0, z1, z2, z3, z4, z5, z6, z7, z8, z9⟩ := z10 BK1.out; have hsz : W.heap.size < w1.heap.size := blk_lt BK1.out; have HZ1 := Lib.hid hsz) | (go_at_call 75; (with_reducible refine (sign_of g toks en _ HN.out _ _ _ _ _ _ _ HS.out ?s1 HLEN.out _ ?sp ?s2 ?s3 ?s4).mono ?_); (case sp => exact (Uq1 HP1.out)); (case s1 => decide); (case s2 => exact strC_new (by simp) rfl (by decide)); (case s3 => decide); (case s4 => rfl); rintro e w2 ⟨rfl, hp, hb⟩; have HP2 := Lib.hid hp; have HB2 := Lib.hid (Bu.trans (g := g) (a := W.alloc nd0) (Uq2 HB1.out) hb); have BK2 := Lib.hid (hb.blk (k := W.heap.size) (o := nd0) (Uq3 BK1.out) (Nat.ne_of_gt HG.out)); clear hp hb; (try clear c0 c1 c2 c3 c4 c5 c6 c7 c8 c9 z0 z1 z2 z3 z4 z5 z6 z7 z8 z9 hsz); obtain ⟨⟨c0, c1, c2, c3, c4, c5, c6, c7, c8, c9⟩, z0, z1, z2, z3, z4, z5, z6, z7, z8, z9⟩ := z10 BK2.out; have hsz : W.heap.size < w2.heap.size := blk_lt BK2.out; have HZ2 := Lib.hid hsz) | (go_at_call 132; (fail_if_success have := HP3); (with_reducible refine (HF.out.ok g _ ?sp).mono ?_); (case sp => exact (Uq1 HP2.out)); rintro e w3 ⟨hp, hb, v3, rfl, hv⟩; obtain ⟨AA3, kk3, rfl⟩ := Kd.V_slice hv; have HV3 := Lib.hid (Kd.V_mono hv (fun k hk => lo (g := g) (o := nd0) (W := W) (Uq2 HB2.out) hk)); clear hv; have HP3 := Lib.hid hp; have HB3 := Lib.hid (Bu.trans (g := g) (a := W.alloc nd0) (Uq2 HB2.out) hb); have BK3 := Lib.hid (hb.blk (k := W.heap.size) (o := nd0) (Uq3 BK2.out) (Nat.ne_of_gt HG.out)); clear hp hb; (try clear c0 c1 c2 c3 c4 c5 c6 c7 c8 c9 z0 z1 z2 z3 z4 z5 z6 z7 z8 z9 hsz); obtain ⟨⟨c0, c1, c2, c3, c4, c5, c6, c7, c8, c9⟩, z0, z1, z2, z3, z4, z5, z6, z7, z8, z9⟩ := z10 BK3.out; have hsz : W.heap.size < w3.heap.size := blk_lt BK3.out; have HZ3 := Lib.hid hsz))
  refine bodyPost_ret (results_ct rfl _ _ W.heap.size 31 _ (0, 0) _ rfl (Uq4 BK3.out) hu rfl (by kernel_rfl)) rfl ?_
  refine ⟨?_, ?_, (.slice AA3 a.f4.length kk3), ?_, Kd.V_mono ?_ (fun k hk => Nat.le_of_lt hk)⟩
  · exact (Uq5 HP3.out)
  · exact (Uq6 HB3.out)
  · rfl
  · exact (Uq9 HV3.out)
set_option maxHeartbeats 8000000 in
set_option maxRecDepth 100000 in
theorem unary_ubad (toks : List Tok) (en i : Int) (n : Nat) (n2 : Nat) (p c : Int) (hd : ¬ 40 < i) (hi : 0 ≤ i) (s : ByteArray) (n1 : Nat) (hs : signV toks n [⟨#[45]⟩] = (s, true, n1)) (hn : n ≤ toks.length) (hlen : toks.length ≤ 1000000) (hf : Does 125 toks en (i + 1) n1 (.bad p c, n2)) : Does 125 toks en i n (.bad p c, n2) := by
  intro g W hp
  have hu := Tryz.underlying31
  have HG := Lib.hid hp.lt
  have HP0 := Lib.hid (hp.alloc nd0)
  have HB0 := Lib.hid (Bu.refl g (W.alloc nd0))
  have BK0 := Lib.hid (blk_new W nd0)
  have HPW := Lib.hid hp
  clear hp
  have w1 : IntKind.i64.wrap (i + 1) = i + 1 := by rw [i64_w, M.wrap64_id (by unfold I64; omega)]
  have HD := Lib.hid hd
  have HF := Lib.hid hf
  have HS := Lib.hid hs
  have HN := Lib.hid hn
  have HLEN := Lib.hid hlen
  clear hd hf hs hn hlen
  clear hi
  go_enter Tryz.func125, Tryz.ntmps125
  go_wp2_with (first | (go_at_call 73; (with_reducible refine (deep_no _ _ HD.out).mono ?_); rintro e w1 ⟨rfl, hbl⟩; have hb := Bu.of_below (g := g) hbl; have hp := PS.below (g := g) (toks := toks) (en := en) (at_ := (n : Int)) (Uq1 HP0.out) hbl; clear hbl; have HP1 := Lib.hid hp; have HB1 := Lib.hid (Bu.trans (g := g) (a := W.alloc nd0) (Uq2 HB0.out) hb); have BK1 := Lib.hid (hb.blk (k := W.heap.size) (o := nd0) (Uq3 BK0.out) (Nat.ne_of_gt HG.out)); clear hp hb; (try clear c0 c1 c2 c3 c4 c5 c6 c7 c8 c9 z0 z1 z2 z3 z4 z5 z6 z7 z8 z9 hsz); obtain ⟨⟨c0, c1, c2, c3, c4, c5, c6, c7, c8, c9⟩, z0, z1, z2, z3, z4, z5, z6, z7, z8, z9⟩ := z10 BK1.out; have hsz : W.heap.size < w1.heap.size := blk_lt BK1.out; have HZ1 := Lib.hid hsz) | (go_at_call 75; (with_reducible refine (sign_of g toks en _ HN.out _ _ _ _ _ _ _ HS.out ?s1 HLEN.out _ ?sp ?s2 ?s3 ?s4).mono ?_); (case sp => exact (Uq1 HP1.out)); (case s1 => decide); (case s2 => exact strC_new (by simp) rfl (by decide)); (case s3 => decide); (case s4 => rfl); rintro e w2 ⟨rfl, hp, hb⟩; have HP2 := Lib.hid hp; have HB2 := Lib.hid (Bu.trans (g := g) (a := W.alloc nd0) (Uq2 HB1.out) hb); have BK2 := Lib.hid (hb.blk (k := W.heap.size) (o := nd0) (Uq3 BK1.out) (Nat.ne_of_gt HG.out)); clear hp hb; (try clear c0 c1 c2 c3 c4 c5 c6 c7 c8 c9 z0 z1 z2 z3 z4 z5 z6 z7 z8 z9 hsz); obtain ⟨⟨c0, c1, c2, c3, c4, c5, c6, c7, c8, c9⟩, z0, z1, z2, z3, z4, z5, z6, z7, z8, z9⟩ := z10 BK2.out; have hsz : W.heap.size < w2.heap.size := blk_lt BK2.out; have HZ2 := Lib.hid hsz) | (go_at_call 125; (with_reducible refine (HF.out.bad g _ ?sp).mono ?_); (case sp => exact (Uq1 HP2.out)); rintro e w3 ⟨hp, hb, q, rfl, he, hq⟩; have HE := Lib.hid he; have HQ := Lib.hid (lo (g := g) (o := nd0) (W := W) (Uq2 HB2.out) hq); clear he hq; have HP3 := Lib.hid hp; have HB3 := Lib.hid (Bu.trans (g := g) (a := W.alloc nd0) (Uq2 HB2.out) hb); have BK3 := Lib.hid (hb.blk (k := W.heap.size) (o := nd0) (Uq3 BK2.out) (Nat.ne_of_gt HG.out)); clear hp hb; (try clear c0 c1 c2 c3 c4 c5 c6 c7 c8 c9 z0 z1 z2 z3 z4 z5 z6 z7 z8 z9 hsz); obtain ⟨⟨c0, c1, c2, c3, c4, c5, c6, c7, c8, c9⟩, z0, z1, z2, z3, z4, z5, z6, z7, z8, z9⟩ := z10 BK3.out; have hsz : W.heap.size < w3.heap.size := blk_lt BK3.out; have HZ3 := Lib.hid hsz))
  refine bodyPost_ret (results_ct rfl _ _ W.heap.size 31 _ (0, 0) _ rfl (Uq4 BK3.out) hu rfl (by kernel_rfl)) rfl ?_
  refine ⟨?_, ?_, q, ?_, ?_, Nat.le_of_lt HQ.out⟩
  · exact (Uq5 HP3.out)
  · exact (Uq6 HB3.out)
  · rfl
  · exact (Uq7 HE.out)
def negT (a : TN) : TN := ⟨4, ⟨0, 0, ⟨#[]⟩⟩, ⟨⟨0, 0⟩, ⟨0, 0⟩⟩, ⟨#[]⟩, [a]⟩
set_option maxHeartbeats 8000000 in
set_option maxRecDepth 100000 in
theorem unary_uok (toks : List Tok) (en i : Int) (n : Nat) (n2 : Nat) (a : TN) (hd : ¬ 40 < i) (hi : 0 ≤ i) (s : ByteArray) (n1 : Nat) (hs : signV toks n [⟨#[45]⟩] = (s, true, n1)) (hn : n ≤ toks.length) (hlen : toks.length ≤ 1000000) (hf : Does 125 toks en (i + 1) n1 (.ok a, n2)) : Does 125 toks en i n (.ok (negT a), n2) := by
  intro g W hp
  have hu := Tryz.underlying31
  have HG := Lib.hid hp.lt
  have HP0 := Lib.hid (hp.alloc nd0)
  have HB0 := Lib.hid (Bu.refl g (W.alloc nd0))
  have BK0 := Lib.hid (blk_new W nd0)
  have HPW := Lib.hid hp
  clear hp
  have w1 : IntKind.i64.wrap (i + 1) = i + 1 := by rw [i64_w, M.wrap64_id (by unfold I64; omega)]
  have HD := Lib.hid hd
  have HF := Lib.hid hf
  have HS := Lib.hid hs
  have HN := Lib.hid hn
  have HLEN := Lib.hid hlen
  clear hd hf hs hn hlen
  clear hi
  go_enter Tryz.func125, Tryz.ntmps125
  go_wp2_with (first | (go_at_call 73; (with_reducible refine (deep_no _ _ HD.out).mono ?_); rintro e w1 ⟨rfl, hbl⟩; have hb := Bu.of_below (g := g) hbl; have hp := PS.below (g := g) (toks := toks) (en := en) (at_ := (n : Int)) (Uq1 HP0.out) hbl; clear hbl; have HP1 := Lib.hid hp; have HB1 := Lib.hid (Bu.trans (g := g) (a := W.alloc nd0) (Uq2 HB0.out) hb); have BK1 := Lib.hid (hb.blk (k := W.heap.size) (o := nd0) (Uq3 BK0.out) (Nat.ne_of_gt HG.out)); clear hp hb; (try clear c0 c1 c2 c3 c4 c5 c6 c7 c8 c9 z0 z1 z2 z3 z4 z5 z6 z7 z8 z9 hsz); obtain ⟨⟨c0, c1, c2, c3, c4, c5, c6, c7, c8, c9⟩, z0, z1, z2, z3, z4, z5, z6, z7, z8, z9⟩ := z10 BK1.out; have hsz : W.heap.size < w1.heap.size := blk_lt BK1.out; have HZ1 := Lib.hid hsz) | (go_at_call 75; (with_reducible refine (sign_of g toks en _ HN.out _ _ _ _ _ _ _ HS.out ?s1 HLEN.out _ ?sp ?s2 ?s3 ?s4).mono ?_); (case sp => exact (Uq1 HP1.out)); (case s1 => decide); (case s2 => exact strC_new (by simp) rfl (by decide)); (case s3 => decide); (case s4 => rfl); rintro e w2 ⟨rfl, hp, hb⟩; have HP2 := Lib.hid hp; have HB2 := Lib.hid (Bu.trans (g := g) (a := W.alloc nd0) (Uq2 HB1.out) hb); have BK2 := Lib.hid (hb.blk (k := W.heap.size) (o := nd0) (Uq3 BK1.out) (Nat.ne_of_gt HG.out)); clear hp hb; (try clear c0 c1 c2 c3 c4 c5 c6 c7 c8 c9 z0 z1 z2 z3 z4 z5 z6 z7 z8 z9 hsz); obtain ⟨⟨c0, c1, c2, c3, c4, c5, c6, c7, c8, c9⟩, z0, z1, z2, z3, z4, z5, z6, z7, z8, z9⟩ := z10 BK2.out; have hsz : W.heap.size < w2.heap.size := blk_lt BK2.out; have HZ2 := Lib.hid hsz) | (go_at_call 125; (fail_if_success have := HP3); (with_reducible refine (HF.out.ok g _ ?sp).mono ?_); (case sp => exact (Uq1 HP2.out)); rintro e w3 ⟨hp, hb, v3, rfl, hv⟩; obtain ⟨AA3, kk3, rfl⟩ := Kd.V_slice hv; have HV3 := Lib.hid (Kd.V_mono hv (fun k hk => lo (g := g) (o := nd0) (W := W) (Uq2 HB2.out) hk)); clear hv; have HP3 := Lib.hid hp; have HB3 := Lib.hid (Bu.trans (g := g) (a := W.alloc nd0) (Uq2 HB2.out) hb); have BK3 := Lib.hid (hb.blk (k := W.heap.size) (o := nd0) (Uq3 BK2.out) (Nat.ne_of_gt HG.out)); clear hp hb; (try clear c0 c1 c2 c3 c4 c5 c6 c7 c8 c9 z0 z1 z2 z3 z4 z5 z6 z7 z8 z9 hsz); obtain ⟨⟨c0, c1, c2, c3, c4, c5, c6, c7, c8, c9⟩, z0, z1, z2, z3, z4, z5, z6, z7, z8, z9⟩ := z10 BK3.out; have hsz : W.heap.size < w3.heap.size := blk_lt BK3.out; have HZ3 := Lib.hid hsz))
  refine bodyPost_ret (results_ct rfl _ _ W.heap.size 31 _ (0, 0) _ rfl (Uq4 BK3.out) hu rfl (by kernel_rfl)) rfl ?_
  refine ⟨?_, ?_, (.slice (some ⟨w3.heap.size + 1, 0, none⟩) 1 1), ?_, Kd.V_mono (vN_one (ok := fun k => W.heap.size < k) ?_ ?_ ?_) (fun k hk => Nat.le_of_lt hk)⟩
  · exact (Uq5 HP3.out)
  · exact (Uq6 HB3.out)
  · rfl
  · simp [World.setCell]
  · have := HZ3.out; simp [World.setCell]; omega
  · exact (Uq9 HV3.out)
set_option maxHeartbeats 8000000 in
set_option maxRecDepth 100000 in
theorem power_ubad (toks : List Tok) (en i : Int) (n : Nat) (n1 : Nat) (p c : Int) (hd : ¬ 40 < i) (hi : 0 ≤ i) (hf : Does 125 toks en i n (.bad p c, n1)) : Does 109 toks en i n (.bad p c, n1) := by
  intro g W hp
  have hu := Tryz.underlying31
  have HG := Lib.hid hp.lt
  have HP0 := Lib.hid (hp.alloc nd0)
  have HB0 := Lib.hid (Bu.refl g (W.alloc nd0))
  have BK0 := Lib.hid (blk_new W nd0)
  have HPW := Lib.hid hp
  clear hp
  have HD := Lib.hid hd
  have HF := Lib.hid hf
  clear hd hf
  clear hi
  go_enter Tryz.func109, Tryz.ntmps109
  go_wp2_with (first | (go_at_call 73; (with_reducible refine (deep_no _ _ HD.out).mono ?_); rintro e w1 ⟨rfl, hbl⟩; have hb := Bu.of_below (g := g) hbl; have hp := PS.below (g := g) (toks := toks) (en := en) (at_ := (n : Int)) (Uq1 HP0.out) hbl; clear hbl; have HP1 := Lib.hid hp; have HB1 := Lib.hid (Bu.trans (g := g) (a := W.alloc nd0) (Uq2 HB0.out) hb); have BK1 := Lib.hid (hb.blk (k := W.heap.size) (o := nd0) (Uq3 BK0.out) (Nat.ne_of_gt HG.out)); clear hp hb; (try clear c0 c1 c2 c3 c4 c5 c6 c7 c8 c9 z0 z1 z2 z3 z4 z5 z6 z7 z8 z9 hsz); obtain ⟨⟨c0, c1, c2, c3, c4, c5, c6, c7, c8, c9⟩, z0, z1, z2, z3, z4, z5, z6, z7, z8, z9⟩ := z10 BK1.out; have hsz : W.heap.size < w1.heap.size := blk_lt BK1.out; have HZ1 := Lib.hid hsz) | (go_at_call 125; (with_reducible refine (HF.out.bad g _ ?sp).mono ?_); (case sp => exact (Uq1 HP1.out)); rintro e w2 ⟨hp, hb, q, rfl, he, hq⟩; have HE := Lib.hid he; have HQ := Lib.hid (lo (g := g) (o := nd0) (W := W) (Uq2 HB1.out) hq); clear he hq; have HP2 := Lib.hid hp; have HB2 := Lib.hid (Bu.trans (g := g) (a := W.alloc nd0) (Uq2 HB1.out) hb); have BK2 := Lib.hid (hb.blk (k := W.heap.size) (o := nd0) (Uq3 BK1.out) (Nat.ne_of_gt HG.out)); clear hp hb; (try clear c0 c1 c2 c3 c4 c5 c6 c7 c8 c9 z0 z1 z2 z3 z4 z5 z6 z7 z8 z9 hsz); obtain ⟨⟨c0, c1, c2, c3, c4, c5, c6, c7, c8, c9⟩, z0, z1, z2, z3, z4, z5, z6, z7, z8, z9⟩ := z10 BK2.out; have hsz : W.heap.size < w2.heap.size := blk_lt BK2.out; have HZ2 := Lib.hid hsz))
  refine bodyPost_ret (results_ct rfl _ _ W.heap.size 31 _ (0, 0) _ rfl (Uq4 BK2.out) hu rfl (by kernel_rfl)) rfl ?_
  refine ⟨?_, ?_, q, ?_, ?_, Nat.le_of_lt HQ.out⟩
  · exact (Uq5 HP2.out)
  · exact (Uq6 HB2.out)
  · rfl
  · exact (Uq7 HE.out)
set_option maxHeartbeats 8000000 in
set_option maxRecDepth 100000 in
theorem power_one (toks : List Tok) (en i : Int) (n : Nat) (n1 : Nat) (a : TN) (hd : ¬ 40 < i) (hi : 0 ≤ i) (s : ByteArray) (n2 : Nat) (hs : signV toks n1 [⟨#[94]⟩] = (s, false, n2)) (hn : n1 ≤ toks.length) (hlen : toks.length ≤ 1000000) (hf : Does 125 toks en i n (.ok a, n1)) : Does 109 toks en i n (.ok a, n2) := by
  intro g W hp
  have hu := Tryz.underlying31
  have HG := Lib.hid hp.lt
  have HP0 := Lib.hid (hp.alloc nd0)
  have HB0 := Lib.hid (Bu.refl g (W.alloc nd0))
  have BK0 := Lib.hid (blk_new W nd0)
  have HPW := Lib.hid hp
  clear hp
  have HD := Lib.hid hd
  have HF := Lib.hid hf
  have HS := Lib.hid hs
  have HN := Lib.hid hn
  have HLEN := Lib.hid hlen
  clear hd hf hs hn hlen
  clear hi
  go_enter Tryz.func109, Tryz.ntmps109
  go_wp2_with (first | (go_at_call 73; (with_reducible refine (deep_no _ _ HD.out).mono ?_); rintro e w1 ⟨rfl, hbl⟩; have hb := Bu.of_below (g := g) hbl; have hp := PS.below (g := g) (toks := toks) (en := en) (at_ := (n : Int)) (Uq1 HP0.out) hbl; clear hbl; have HP1 := Lib.hid hp; have HB1 := Lib.hid (Bu.trans (g := g) (a := W.alloc nd0) (Uq2 HB0.out) hb); have BK1 := Lib.hid (hb.blk (k := W.heap.size) (o := nd0) (Uq3 BK0.out) (Nat.ne_of_gt HG.out)); clear hp hb; (try clear c0 c1 c2 c3 c4 c5 c6 c7 c8 c9 z0 z1 z2 z3 z4 z5 z6 z7 z8 z9 hsz); obtain ⟨⟨c0, c1, c2, c3, c4, c5, c6, c7, c8, c9⟩, z0, z1, z2, z3, z4, z5, z6, z7, z8, z9⟩ := z10 BK1.out; have hsz : W.heap.size < w1.heap.size := blk_lt BK1.out; have HZ1 := Lib.hid hsz) | (go_at_call 125; (fail_if_success have := HP2); (with_reducible refine (HF.out.ok g _ ?sp).mono ?_); (case sp => exact (Uq1 HP1.out)); rintro e w2 ⟨hp, hb, v2, rfl, hv⟩; obtain ⟨AA2, kk2, rfl⟩ := Kd.V_slice hv; have HV2 := Lib.hid (Kd.V_mono hv (fun k hk => lo (g := g) (o := nd0) (W := W) (Uq2 HB1.out) hk)); clear hv; have HP2 := Lib.hid hp; have HB2 := Lib.hid (Bu.trans (g := g) (a := W.alloc nd0) (Uq2 HB1.out) hb); have BK2 := Lib.hid (hb.blk (k := W.heap.size) (o := nd0) (Uq3 BK1.out) (Nat.ne_of_gt HG.out)); clear hp hb; (try clear c0 c1 c2 c3 c4 c5 c6 c7 c8 c9 z0 z1 z2 z3 z4 z5 z6 z7 z8 z9 hsz); obtain ⟨⟨c0, c1, c2, c3, c4, c5, c6, c7, c8, c9⟩, z0, z1, z2, z3, z4, z5, z6, z7, z8, z9⟩ := z10 BK2.out; have hsz : W.heap.size < w2.heap.size := blk_lt BK2.out; have HZ2 := Lib.hid hsz) | (go_at_call 75; (with_reducible refine (sign_of g toks en _ HN.out _ _ _ _ _ _ _ HS.out ?s1 HLEN.out _ ?sp ?s2 ?s3 ?s4).mono ?_); (case sp => exact (Uq1 HP2.out)); (case s1 => decide); (case s2 => exact strC_new (by simp) rfl (by decide)); (case s3 => decide); (case s4 => rfl); rintro e w3 ⟨rfl, hp, hb⟩; have HV2b := Lib.hid (vN.bu (ok := fun k => W.heap.size < k) (v := (.slice AA2 a.f4.length kk2)) (l := a.f4) (Uq8 HV2.out) hb (fun k hk => Nat.ne_of_gt (Nat.lt_trans HG.out hk))); have HP3 := Lib.hid hp; have HB3 := Lib.hid (Bu.trans (g := g) (a := W.alloc nd0) (Uq2 HB2.out) hb); have BK3 := Lib.hid (hb.blk (k := W.heap.size) (o := nd0) (Uq3 BK2.out) (Nat.ne_of_gt HG.out)); have BA := Lib.hid (hb.blk (k := w2.heap.size) (o := ndO a (.slice AA2 a.f4.length kk2)) (Uq3 BK2.out) (Nat.ne_of_gt (Nat.lt_trans HG.out HZ2.out))); clear hp hb; (try clear c0 c1 c2 c3 c4 c5 c6 c7 c8 c9 z0 z1 z2 z3 z4 z5 z6 z7 z8 z9 hsz); obtain ⟨⟨c0, c1, c2, c3, c4, c5, c6, c7, c8, c9⟩, z0, z1, z2, z3, z4, z5, z6, z7, z8, z9⟩ := z10 BK3.out; have hsz : W.heap.size < w3.heap.size := blk_lt BK3.out; have HZ3 := Lib.hid hsz; obtain ⟨⟨d0_0, d0_1, d0_2, d0_3, d0_4, d0_5, d0_6, d0_7, d0_8, d0_9⟩, -⟩ := z10 BA.out; have hd0_ := blk_lt BA.out))
  refine bodyPost_ret (results_ct rfl _ _ W.heap.size 31 _ (0, 0) _ rfl (Uq4 BK3.out) hu rfl (by kernel_rfl)) rfl ?_
  refine ⟨?_, ?_, (.slice AA2 a.f4.length kk2), ?_, Kd.V_mono ?_ (fun k hk => Nat.le_of_lt hk)⟩
  · exact (Uq5 HP3.out)
  · exact (Uq6 HB3.out)
  · rfl
  · exact (Uq9 HV2b.out)
set_option maxHeartbeats 8000000 in
set_option maxRecDepth 100000 in
theorem power_bbad (toks : List Tok) (en i : Int) (n : Nat) (n1 n3 : Nat) (a : TN) (p c : Int) (hd : ¬ 40 < i) (hi : 0 ≤ i) (s : ByteArray) (n2 : Nat) (hs : signV toks n1 [⟨#[94]⟩] = (s, true, n2)) (hn : n1 ≤ toks.length) (hlen : toks.length ≤ 1000000) (hf : Does 125 toks en i n (.ok a, n1)) (hg : Does 109 toks en (i + 1) n2 (.bad p c, n3)) : Does 109 toks en i n (.bad p c, n3) := by
  intro g W hp
  have hu := Tryz.underlying31
  have HG := Lib.hid hp.lt
  have HP0 := Lib.hid (hp.alloc nd0)
  have HB0 := Lib.hid (Bu.refl g (W.alloc nd0))
  have BK0 := Lib.hid (blk_new W nd0)
  have HPW := Lib.hid hp
  clear hp
  have w1 : IntKind.i64.wrap (i + 1) = i + 1 := by rw [i64_w, M.wrap64_id (by unfold I64; omega)]
  have HD := Lib.hid hd
  have HF := Lib.hid hf
  have HH := Lib.hid hg
  have HS := Lib.hid hs
  have HN := Lib.hid hn
  have HLEN := Lib.hid hlen
  clear hd hf hg hs hn hlen
  clear hi
  go_enter Tryz.func109, Tryz.ntmps109
  go_wp2_with (first | (go_at_call 73; (with_reducible refine (deep_no _ _ HD.out).mono ?_); rintro e w1 ⟨rfl, hbl⟩; have hb := Bu.of_below (g := g) hbl; have hp := PS.below (g := g) (toks := toks) (en := en) (at_ := (n : Int)) (Uq1 HP0.out) hbl; clear hbl; have HP1 := Lib.hid hp; have HB1 := Lib.hid (Bu.trans (g := g) (a := W.alloc nd0) (Uq2 HB0.out) hb); have BK1 := Lib.hid (hb.blk (k := W.heap.size) (o := nd0) (Uq3 BK0.out) (Nat.ne_of_gt HG.out)); clear hp hb; (try clear c0 c1 c2 c3 c4 c5 c6 c7 c8 c9 z0 z1 z2 z3 z4 z5 z6 z7 z8 z9 hsz); obtain ⟨⟨c0, c1, c2, c3, c4, c5, c6, c7, c8, c9⟩, z0, z1, z2, z3, z4, z5, z6, z7, z8, z9⟩ := z10 BK1.out; have hsz : W.heap.size < w1.heap.size := blk_lt BK1.out; have HZ1 := Lib.hid hsz) | (go_at_call 125; (fail_if_success have := HP2); (with_reducible refine (HF.out.ok g _ ?sp).mono ?_); (case sp => exact (Uq1 HP1.out)); rintro e w2 ⟨hp, hb, v2, rfl, hv⟩; obtain ⟨AA2, kk2, rfl⟩ := Kd.V_slice hv; have HV2 := Lib.hid (Kd.V_mono hv (fun k hk => lo (g := g) (o := nd0) (W := W) (Uq2 HB1.out) hk)); clear hv; have HP2 := Lib.hid hp; have HB2 := Lib.hid (Bu.trans (g := g) (a := W.alloc nd0) (Uq2 HB1.out) hb); have BK2 := Lib.hid (hb.blk (k := W.heap.size) (o := nd0) (Uq3 BK1.out) (Nat.ne_of_gt HG.out)); clear hp hb; (try clear c0 c1 c2 c3 c4 c5 c6 c7 c8 c9 z0 z1 z2 z3 z4 z5 z6 z7 z8 z9 hsz); obtain ⟨⟨c0, c1, c2, c3, c4, c5, c6, c7, c8, c9⟩, z0, z1, z2, z3, z4, z5, z6, z7, z8, z9⟩ := z10 BK2.out; have hsz : W.heap.size < w2.heap.size := blk_lt BK2.out; have HZ2 := Lib.hid hsz) | (go_at_call 75; (with_reducible refine (sign_of g toks en _ HN.out _ _ _ _ _ _ _ HS.out ?s1 HLEN.out _ ?sp ?s2 ?s3 ?s4).mono ?_); (case sp => exact (Uq1 HP2.out)); (case s1 => decide); (case s2 => exact strC_new (by simp) rfl (by decide)); (case s3 => decide); (case s4 => rfl); rintro e w3 ⟨rfl, hp, hb⟩; have HV2b := Lib.hid (vN.bu (ok := fun k => W.heap.size < k) (v := (.slice AA2 a.f4.length kk2)) (l := a.f4) (Uq8 HV2.out) hb (fun k hk => Nat.ne_of_gt (Nat.lt_trans HG.out hk))); have HP3 := Lib.hid hp; have HB3 := Lib.hid (Bu.trans (g := g) (a := W.alloc nd0) (Uq2 HB2.out) hb); have BK3 := Lib.hid (hb.blk (k := W.heap.size) (o := nd0) (Uq3 BK2.out) (Nat.ne_of_gt HG.out)); have BA := Lib.hid (hb.blk (k := w2.heap.size) (o := ndO a (.slice AA2 a.f4.length kk2)) (Uq3 BK2.out) (Nat.ne_of_gt (Nat.lt_trans HG.out HZ2.out))); clear hp hb; (try clear c0 c1 c2 c3 c4 c5 c6 c7 c8 c9 z0 z1 z2 z3 z4 z5 z6 z7 z8 z9 hsz); obtain ⟨⟨c0, c1, c2, c3, c4, c5, c6, c7, c8, c9⟩, z0, z1, z2, z3, z4, z5, z6, z7, z8, z9⟩ := z10 BK3.out; have hsz : W.heap.size < w3.heap.size := blk_lt BK3.out; have HZ3 := Lib.hid hsz; obtain ⟨⟨d0_0, d0_1, d0_2, d0_3, d0_4, d0_5, d0_6, d0_7, d0_8, d0_9⟩, -⟩ := z10 BA.out; have hd0_ := blk_lt BA.out) | (go_at_call 109; (with_reducible refine (HH.out.bad g _ ?sp).mono ?_); (case sp => exact (Uq1 HP3.out)); rintro e w4 ⟨hp, hb, q, rfl, he, hq⟩; have HE := Lib.hid he; have HQ := Lib.hid (lo (g := g) (o := nd0) (W := W) (Uq2 HB3.out) hq); clear he hq; have HP4 := Lib.hid hp; have HB4 := Lib.hid (Bu.trans (g := g) (a := W.alloc nd0) (Uq2 HB3.out) hb); have BK4 := Lib.hid (hb.blk (k := W.heap.size) (o := nd0) (Uq3 BK3.out) (Nat.ne_of_gt HG.out)); clear hp hb; (try clear c0 c1 c2 c3 c4 c5 c6 c7 c8 c9 z0 z1 z2 z3 z4 z5 z6 z7 z8 z9 hsz); obtain ⟨⟨c0, c1, c2, c3, c4, c5, c6, c7, c8, c9⟩, z0, z1, z2, z3, z4, z5, z6, z7, z8, z9⟩ := z10 BK4.out; have hsz : W.heap.size < w4.heap.size := blk_lt BK4.out; have HZ4 := Lib.hid hsz))
  refine bodyPost_ret (results_ct rfl _ _ W.heap.size 31 _ (0, 0) _ rfl (Uq4 BK4.out) hu rfl (by kernel_rfl)) rfl ?_
  refine ⟨?_, ?_, q, ?_, ?_, Nat.le_of_lt HQ.out⟩
  · exact (Uq5 HP4.out)
  · exact (Uq6 HB4.out)
  · rfl
  · exact (Uq7 HE.out)
set_option maxHeartbeats 8000000 in
set_option maxRecDepth 100000 in
theorem power_two (toks : List Tok) (en i : Int) (n : Nat) (n1 n3 : Nat) (a b : TN) (hd : ¬ 40 < i) (hi : 0 ≤ i) (s : ByteArray) (n2 : Nat) (hs : signV toks n1 [⟨#[94]⟩] = (s, true, n2)) (hn : n1 ≤ toks.length) (hlen : toks.length ≤ 1000000) (hf : Does 125 toks en i n (.ok a, n1)) (hg : Does 109 toks en (i + 1) n2 (.ok b, n3)) : Does 109 toks en i n (.ok (twoT ⟨#[94]⟩ a b), n3) := by
  intro g W hp
  have hu := Tryz.underlying31
  have HG := Lib.hid hp.lt
  have HP0 := Lib.hid (hp.alloc nd0)
  have HB0 := Lib.hid (Bu.refl g (W.alloc nd0))
  have BK0 := Lib.hid (blk_new W nd0)
  have HPW := Lib.hid hp
  clear hp
  have w1 : IntKind.i64.wrap (i + 1) = i + 1 := by rw [i64_w, M.wrap64_id (by unfold I64; omega)]
  have HD := Lib.hid hd
  have HF := Lib.hid hf
  have HH := Lib.hid hg
  have HS := Lib.hid hs
  have HN := Lib.hid hn
  have HLEN := Lib.hid hlen
  clear hd hf hg hs hn hlen
  clear hi
  go_enter Tryz.func109, Tryz.ntmps109
  go_wp2_with (first | (go_at_call 73; (with_reducible refine (deep_no _ _ HD.out).mono ?_); rintro e w1 ⟨rfl, hbl⟩; have hb := Bu.of_below (g := g) hbl; have hp := PS.below (g := g) (toks := toks) (en := en) (at_ := (n : Int)) (Uq1 HP0.out) hbl; clear hbl; have HP1 := Lib.hid hp; have HB1 := Lib.hid (Bu.trans (g := g) (a := W.alloc nd0) (Uq2 HB0.out) hb); have BK1 := Lib.hid (hb.blk (k := W.heap.size) (o := nd0) (Uq3 BK0.out) (Nat.ne_of_gt HG.out)); clear hp hb; (try clear c0 c1 c2 c3 c4 c5 c6 c7 c8 c9 z0 z1 z2 z3 z4 z5 z6 z7 z8 z9 hsz); obtain ⟨⟨c0, c1, c2, c3, c4, c5, c6, c7, c8, c9⟩, z0, z1, z2, z3, z4, z5, z6, z7, z8, z9⟩ := z10 BK1.out; have hsz : W.heap.size < w1.heap.size := blk_lt BK1.out; have HZ1 := Lib.hid hsz) | (go_at_call 125; (fail_if_success have := HP2); (with_reducible refine (HF.out.ok g _ ?sp).mono ?_); (case sp => exact (Uq1 HP1.out)); rintro e w2 ⟨hp, hb, v2, rfl, hv⟩; obtain ⟨AA2, kk2, rfl⟩ := Kd.V_slice hv; have HV2 := Lib.hid (Kd.V_mono hv (fun k hk => lo (g := g) (o := nd0) (W := W) (Uq2 HB1.out) hk)); clear hv; have HP2 := Lib.hid hp; have HB2 := Lib.hid (Bu.trans (g := g) (a := W.alloc nd0) (Uq2 HB1.out) hb); have BK2 := Lib.hid (hb.blk (k := W.heap.size) (o := nd0) (Uq3 BK1.out) (Nat.ne_of_gt HG.out)); clear hp hb; (try clear c0 c1 c2 c3 c4 c5 c6 c7 c8 c9 z0 z1 z2 z3 z4 z5 z6 z7 z8 z9 hsz); obtain ⟨⟨c0, c1, c2, c3, c4, c5, c6, c7, c8, c9⟩, z0, z1, z2, z3, z4, z5, z6, z7, z8, z9⟩ := z10 BK2.out; have hsz : W.heap.size < w2.heap.size := blk_lt BK2.out; have HZ2 := Lib.hid hsz) | (go_at_call 75; (with_reducible refine (sign_of g toks en _ HN.out _ _ _ _ _ _ _ HS.out ?s1 HLEN.out _ ?sp ?s2 ?s3 ?s4).mono ?_); (case sp => exact (Uq1 HP2.out)); (case s1 => decide); (case s2 => exact strC_new (by simp) rfl (by decide)); (case s3 => decide); (case s4 => rfl); rintro e w3 ⟨rfl, hp, hb⟩; have HV2b := Lib.hid (vN.bu (ok := fun k => W.heap.size < k) (v := (.slice AA2 a.f4.length kk2)) (l := a.f4) (Uq8 HV2.out) hb (fun k hk => Nat.ne_of_gt (Nat.lt_trans HG.out hk))); have HP3 := Lib.hid hp; have HB3 := Lib.hid (Bu.trans (g := g) (a := W.alloc nd0) (Uq2 HB2.out) hb); have BK3 := Lib.hid (hb.blk (k := W.heap.size) (o := nd0) (Uq3 BK2.out) (Nat.ne_of_gt HG.out)); have BA := Lib.hid (hb.blk (k := w2.heap.size) (o := ndO a (.slice AA2 a.f4.length kk2)) (Uq3 BK2.out) (Nat.ne_of_gt (Nat.lt_trans HG.out HZ2.out))); clear hp hb; (try clear c0 c1 c2 c3 c4 c5 c6 c7 c8 c9 z0 z1 z2 z3 z4 z5 z6 z7 z8 z9 hsz); obtain ⟨⟨c0, c1, c2, c3, c4, c5, c6, c7, c8, c9⟩, z0, z1, z2, z3, z4, z5, z6, z7, z8, z9⟩ := z10 BK3.out; have hsz : W.heap.size < w3.heap.size := blk_lt BK3.out; have HZ3 := Lib.hid hsz; obtain ⟨⟨d0_0, d0_1, d0_2, d0_3, d0_4, d0_5, d0_6, d0_7, d0_8, d0_9⟩, -⟩ := z10 BA.out; have hd0_ := blk_lt BA.out) | (go_at_call 109; (fail_if_success have := HP4); (with_reducible refine (HH.out.ok g _ ?sp).mono ?_); (case sp => exact (Uq1 HP3.out)); rintro e w4 ⟨hp, hb, v4, rfl, hv⟩; obtain ⟨AA4, kk4, rfl⟩ := Kd.V_slice hv; have HV4 := Lib.hid (Kd.V_mono hv (fun k hk => lo (g := g) (o := nd0) (W := W) (Uq2 HB3.out) hk)); clear hv; have HV2bb := Lib.hid (vN.bu (ok := fun k => W.heap.size < k) (v := (.slice AA2 a.f4.length kk2)) (l := a.f4) (Uq8 HV2b.out) hb (fun k hk => Nat.ne_of_gt (Nat.lt_trans HG.out hk))); have HP4 := Lib.hid hp; have HB4 := Lib.hid (Bu.trans (g := g) (a := W.alloc nd0) (Uq2 HB3.out) hb); have BK4 := Lib.hid (hb.blk (k := W.heap.size) (o := nd0) (Uq3 BK3.out) (Nat.ne_of_gt HG.out)); have BA2 := Lib.hid (hb.blk (k := w2.heap.size) (o := ndO a (.slice AA2 a.f4.length kk2)) (Uq3 BA.out) (Nat.ne_of_gt (Nat.lt_trans HG.out HZ2.out))); clear hp hb; (try clear c0 c1 c2 c3 c4 c5 c6 c7 c8 c9 z0 z1 z2 z3 z4 z5 z6 z7 z8 z9 hsz); obtain ⟨⟨c0, c1, c2, c3, c4, c5, c6, c7, c8, c9⟩, z0, z1, z2, z3, z4, z5, z6, z7, z8, z9⟩ := z10 BK4.out; have hsz : W.heap.size < w4.heap.size := blk_lt BK4.out; have HZ4 := Lib.hid hsz; obtain ⟨⟨d0_0, d0_1, d0_2, d0_3, d0_4, d0_5, d0_6, d0_7, d0_8, d0_9⟩, -⟩ := z10 BA2.out; have hd0_ := blk_lt BA2.out) | (go_at_call 76; (with_reducible refine (two_calls (fun k => W.heap.size < k) _ a b (.slice AA2 a.f4.length kk2) (.slice AA4 b.f4.length kk4) _ ?sk ?sa ?sb).mono ?_); (case sk => exact (fun k hk => lo (g := g) (o := nd0) (W := W) (Uq2 HB4.out) hk)); (case sa => exact (Uq8 HV2bb.out)); (case sb => exact (Uq8 HV4.out)); rintro e w5 ⟨v5, rfl, hv, hbl⟩; obtain ⟨AA5, kk5, rfl⟩ := Kd.V_slice hv; have HV5 := Lib.hid hv; clear hv; have hb := Bu.of_below (g := g) hbl; have hp := PS.below (g := g) (toks := toks) (en := en) (at_ := (n3 : Int)) (Uq1 HP4.out) hbl; clear hbl; have HP5 := Lib.hid hp; have HB5 := Lib.hid (Bu.trans (g := g) (a := W.alloc nd0) (Uq2 HB4.out) hb); have BK5 := Lib.hid (hb.blk (k := W.heap.size) (o := nd0) (Uq3 BK4.out) (Nat.ne_of_gt HG.out)); clear hp hb; (try clear c0 c1 c2 c3 c4 c5 c6 c7 c8 c9 z0 z1 z2 z3 z4 z5 z6 z7 z8 z9 hsz); obtain ⟨⟨c0, c1, c2, c3, c4, c5, c6, c7, c8, c9⟩, z0, z1, z2, z3, z4, z5, z6, z7, z8, z9⟩ := z10 BK5.out; have hsz : W.heap.size < w5.heap.size := blk_lt BK5.out; have HZ5 := Lib.hid hsz))
  refine bodyPost_ret (results_ct rfl _ _ W.heap.size 31 _ (0, 0) _ rfl (Uq4 BK5.out) hu rfl (by kernel_rfl)) rfl ?_
  refine ⟨?_, ?_, (.slice AA5 (twoT ⟨#[94]⟩ a b).f4.length kk5), ?_, Kd.V_mono ?_ (fun k hk => Nat.le_of_lt hk)⟩
  · exact (Uq5 HP5.out)
  · exact (Uq6 HB5.out)
  · rfl
  · exact (Uq9 HV5.out)
set_option maxHeartbeats 8000000 in
set_option maxRecDepth 100000 in
theorem formula_abad (toks : List Tok) (en i : Int) (n : Nat) (n1 : Nat) (p c : Int) (hd : ¬ 40 < i) (hi : 0 ≤ i) (hf : Does 74 toks en i n (.bad p c, n1)) : Does 51 toks en i n (.bad p c, n1) := by
  intro g W hp
  have hu := Tryz.underlying31
  have HG := Lib.hid hp.lt
  have HP0 := Lib.hid (hp.alloc nd0)
  have HB0 := Lib.hid (Bu.refl g (W.alloc nd0))
  have BK0 := Lib.hid (blk_new W nd0)
  have HPW := Lib.hid hp
  clear hp
  have HD := Lib.hid hd
  have HF := Lib.hid hf
  clear hd hf
  clear hi
  go_enter Tryz.func51, Tryz.ntmps51
  go_wp2_with (first | (go_at_call 73; (with_reducible refine (deep_no _ _ HD.out).mono ?_); rintro e w1 ⟨rfl, hbl⟩; have hb := Bu.of_below (g := g) hbl; have hp := PS.below (g := g) (toks := toks) (en := en) (at_ := (n : Int)) (Uq1 HP0.out) hbl; clear hbl; have HP1 := Lib.hid hp; have HB1 := Lib.hid (Bu.trans (g := g) (a := W.alloc nd0) (Uq2 HB0.out) hb); have BK1 := Lib.hid (hb.blk (k := W.heap.size) (o := nd0) (Uq3 BK0.out) (Nat.ne_of_gt HG.out)); clear hp hb; (try clear c0 c1 c2 c3 c4 c5 c6 c7 c8 c9 z0 z1 z2 z3 z4 z5 z6 z7 z8 z9 hsz); obtain ⟨⟨c0, c1, c2, c3, c4, c5, c6, c7, c8, c9⟩, z0, z1, z2, z3, z4, z5, z6, z7, z8, z9⟩ := z10 BK1.out; have hsz : W.heap.size < w1.heap.size := blk_lt BK1.out; have HZ1 := Lib.hid hsz) | (go_at_call 74; (with_reducible refine (HF.out.bad g _ ?sp).mono ?_); (case sp => exact (Uq1 HP1.out)); rintro e w2 ⟨hp, hb, q, rfl, he, hq⟩; have HE := Lib.hid he; have HQ := Lib.hid (lo (g := g) (o := nd0) (W := W) (Uq2 HB1.out) hq); clear he hq; have HP2 := Lib.hid hp; have HB2 := Lib.hid (Bu.trans (g := g) (a := W.alloc nd0) (Uq2 HB1.out) hb); have BK2 := Lib.hid (hb.blk (k := W.heap.size) (o := nd0) (Uq3 BK1.out) (Nat.ne_of_gt HG.out)); clear hp hb; (try clear c0 c1 c2 c3 c4 c5 c6 c7 c8 c9 z0 z1 z2 z3 z4 z5 z6 z7 z8 z9 hsz); obtain ⟨⟨c0, c1, c2, c3, c4, c5, c6, c7, c8, c9⟩, z0, z1, z2, z3, z4, z5, z6, z7, z8, z9⟩ := z10 BK2.out; have hsz : W.heap.size < w2.heap.size := blk_lt BK2.out; have HZ2 := Lib.hid hsz))
  refine bodyPost_ret (results_ct rfl _ _ W.heap.size 31 _ (0, 0) _ rfl (Uq4 BK2.out) hu rfl (by kernel_rfl)) rfl ?_
  refine ⟨?_, ?_, q, ?_, ?_, Nat.le_of_lt HQ.out⟩
  · exact (Uq5 HP2.out)
  · exact (Uq6 HB2.out)
  · rfl
  · exact (Uq7 HE.out)
set_option maxHeartbeats 8000000 in
set_option maxRecDepth 100000 in
theorem formula_one (toks : List Tok) (en i : Int) (n : Nat) (n1 : Nat) (a : TN) (hd : ¬ 40 < i) (hi : 0 ≤ i) (s : ByteArray) (n2 : Nat) (hs : signV toks n1 [⟨#[61]⟩, ⟨#[60, 62]⟩, ⟨#[60]⟩, ⟨#[60, 61]⟩, ⟨#[62]⟩, ⟨#[62, 61]⟩] = (s, false, n2)) (hn : n1 ≤ toks.length) (hlen : toks.length ≤ 1000000) (hf : Does 74 toks en i n (.ok a, n1)) : Does 51 toks en i n (.ok a, n2) := by
  intro g W hp
  have hu := Tryz.underlying31
  have HG := Lib.hid hp.lt
  have HP0 := Lib.hid (hp.alloc nd0)
  have HB0 := Lib.hid (Bu.refl g (W.alloc nd0))
  have BK0 := Lib.hid (blk_new W nd0)
  have HPW := Lib.hid hp
  clear hp
  have HD := Lib.hid hd
  have HF := Lib.hid hf
  have HS := Lib.hid hs
  have HN := Lib.hid hn
  have HLEN := Lib.hid hlen
  clear hd hf hs hn hlen
  clear hi
  go_enter Tryz.func51, Tryz.ntmps51
  go_wp2_with (first | (go_at_call 73; (with_reducible refine (deep_no _ _ HD.out).mono ?_); rintro e w1 ⟨rfl, hbl⟩; have hb := Bu.of_below (g := g) hbl; have hp := PS.below (g := g) (toks := toks) (en := en) (at_ := (n : Int)) (Uq1 HP0.out) hbl; clear hbl; have HP1 := Lib.hid hp; have HB1 := Lib.hid (Bu.trans (g := g) (a := W.alloc nd0) (Uq2 HB0.out) hb); have BK1 := Lib.hid (hb.blk (k := W.heap.size) (o := nd0) (Uq3 BK0.out) (Nat.ne_of_gt HG.out)); clear hp hb; (try clear c0 c1 c2 c3 c4 c5 c6 c7 c8 c9 z0 z1 z2 z3 z4 z5 z6 z7 z8 z9 hsz); obtain ⟨⟨c0, c1, c2, c3, c4, c5, c6, c7, c8, c9⟩, z0, z1, z2, z3, z4, z5, z6, z7, z8, z9⟩ := z10 BK1.out; have hsz : W.heap.size < w1.heap.size := blk_lt BK1.out; have HZ1 := Lib.hid hsz) | (go_at_call 74; (fail_if_success have := HP2); (with_reducible refine (HF.out.ok g _ ?sp).mono ?_); (case sp => exact (Uq1 HP1.out)); rintro e w2 ⟨hp, hb, v2, rfl, hv⟩; obtain ⟨AA2, kk2, rfl⟩ := Kd.V_slice hv; have HV2 := Lib.hid (Kd.V_mono hv (fun k hk => lo (g := g) (o := nd0) (W := W) (Uq2 HB1.out) hk)); clear hv; have HP2 := Lib.hid hp; have HB2 := Lib.hid (Bu.trans (g := g) (a := W.alloc nd0) (Uq2 HB1.out) hb); have BK2 := Lib.hid (hb.blk (k := W.heap.size) (o := nd0) (Uq3 BK1.out) (Nat.ne_of_gt HG.out)); clear hp hb; (try clear c0 c1 c2 c3 c4 c5 c6 c7 c8 c9 z0 z1 z2 z3 z4 z5 z6 z7 z8 z9 hsz); obtain ⟨⟨c0, c1, c2, c3, c4, c5, c6, c7, c8, c9⟩, z0, z1, z2, z3, z4, z5, z6, z7, z8, z9⟩ := z10 BK2.out; have hsz : W.heap.size < w2.heap.size := blk_lt BK2.out; have HZ2 := Lib.hid hsz) | (go_at_call 75; (with_reducible refine (sign_of g toks en _ HN.out _ _ _ _ _ _ _ HS.out ?s1 HLEN.out _ ?sp ?s2 ?s3 ?s4).mono ?_); (case sp => exact (Uq1 HP2.out)); (case s1 => decide); (case s2 => exact strC_new (by simp) rfl (by decide)); (case s3 => decide); (case s4 => rfl); rintro e w3 ⟨rfl, hp, hb⟩; have HV2b := Lib.hid (vN.bu (ok := fun k => W.heap.size < k) (v := (.slice AA2 a.f4.length kk2)) (l := a.f4) (Uq8 HV2.out) hb (fun k hk => Nat.ne_of_gt (Nat.lt_trans HG.out hk))); have HP3 := Lib.hid hp; have HB3 := Lib.hid (Bu.trans (g := g) (a := W.alloc nd0) (Uq2 HB2.out) hb); have BK3 := Lib.hid (hb.blk (k := W.heap.size) (o := nd0) (Uq3 BK2.out) (Nat.ne_of_gt HG.out)); have BA := Lib.hid (hb.blk (k := w2.heap.size) (o := ndO a (.slice AA2 a.f4.length kk2)) (Uq3 BK2.out) (Nat.ne_of_gt (Nat.lt_trans HG.out HZ2.out))); clear hp hb; (try clear c0 c1 c2 c3 c4 c5 c6 c7 c8 c9 z0 z1 z2 z3 z4 z5 z6 z7 z8 z9 hsz); obtain ⟨⟨c0, c1, c2, c3, c4, c5, c6, c7, c8, c9⟩, z0, z1, z2, z3, z4, z5, z6, z7, z8, z9⟩ := z10 BK3.out; have hsz : W.heap.size < w3.heap.size := blk_lt BK3.out; have HZ3 := Lib.hid hsz; obtain ⟨⟨d0_0, d0_1, d0_2, d0_3, d0_4, d0_5, d0_6, d0_7, d0_8, d0_9⟩, -⟩ := z10 BA.out; have hd0_ := blk_lt BA.out))
  refine bodyPost_ret (results_ct rfl _ _ W.heap.size 31 _ (0, 0) _ rfl (Uq4 BK3.out) hu rfl (by kernel_rfl)) rfl ?_
  refine ⟨?_, ?_, (.slice AA2 a.f4.length kk2), ?_, Kd.V_mono ?_ (fun k hk => Nat.le_of_lt hk)⟩
  · exact (Uq5 HP3.out)
  · exact (Uq6 HB3.out)
  · rfl
  · exact (Uq9 HV2b.out)
set_option maxHeartbeats 8000000 in
set_option maxRecDepth 100000 in
theorem formula_bbad (toks : List Tok) (en i : Int) (n : Nat) (n1 n3 : Nat) (a : TN) (p c : Int) (hd : ¬ 40 < i) (hi : 0 ≤ i) (s : ByteArray) (n2 : Nat) (hs : signV toks n1 [⟨#[61]⟩, ⟨#[60, 62]⟩, ⟨#[60]⟩, ⟨#[60, 61]⟩, ⟨#[62]⟩, ⟨#[62, 61]⟩] = (s, true, n2)) (hn : n1 ≤ toks.length) (hlen : toks.length ≤ 1000000) (hf : Does 74 toks en i n (.ok a, n1)) (hg : Does 74 toks en i n2 (.bad p c, n3)) : Does 51 toks en i n (.bad p c, n3) := by
  intro g W hp
  have hu := Tryz.underlying31
  have HG := Lib.hid hp.lt
  have HP0 := Lib.hid (hp.alloc nd0)
  have HB0 := Lib.hid (Bu.refl g (W.alloc nd0))
  have BK0 := Lib.hid (blk_new W nd0)
  have HPW := Lib.hid hp
  clear hp
  have HD := Lib.hid hd
  have HF := Lib.hid hf
  have HH := Lib.hid hg
  have HS := Lib.hid hs
  have HN := Lib.hid hn
  have HLEN := Lib.hid hlen
  clear hd hf hg hs hn hlen
  clear hi
  go_enter Tryz.func51, Tryz.ntmps51
  go_wp2_with (first | (go_at_call 73; (with_reducible refine (deep_no _ _ HD.out).mono ?_); rintro e w1 ⟨rfl, hbl⟩; have hb := Bu.of_below (g := g) hbl; have hp := PS.below (g := g) (toks := toks) (en := en) (at_ := (n : Int)) (Uq1 HP0.out) hbl; clear hbl; have HP1 := Lib.hid hp; have HB1 := Lib.hid (Bu.trans (g := g) (a := W.alloc nd0) (Uq2 HB0.out) hb); have BK1 := Lib.hid (hb.blk (k := W.heap.size) (o := nd0) (Uq3 BK0.out) (Nat.ne_of_gt HG.out)); clear hp hb; (try clear c0 c1 c2 c3 c4 c5 c6 c7 c8 c9 z0 z1 z2 z3 z4 z5 z6 z7 z8 z9 hsz); obtain ⟨⟨c0, c1, c2, c3, c4, c5, c6, c7, c8, c9⟩, z0, z1, z2, z3, z4, z5, z6, z7, z8, z9⟩ := z10 BK1.out; have hsz : W.heap.size < w1.heap.size := blk_lt BK1.out; have HZ1 := Lib.hid hsz) | (go_at_call 74; (fail_if_success have := HP2); (with_reducible refine (HF.out.ok g _ ?sp).mono ?_); (case sp => exact (Uq1 HP1.out)); rintro e w2 ⟨hp, hb, v2, rfl, hv⟩; obtain ⟨AA2, kk2, rfl⟩ := Kd.V_slice hv; have HV2 := Lib.hid (Kd.V_mono hv (fun k hk => lo (g := g) (o := nd0) (W := W) (Uq2 HB1.out) hk)); clear hv; have HP2 := Lib.hid hp; have HB2 := Lib.hid (Bu.trans (g := g) (a := W.alloc nd0) (Uq2 HB1.out) hb); have BK2 := Lib.hid (hb.blk (k := W.heap.size) (o := nd0) (Uq3 BK1.out) (Nat.ne_of_gt HG.out)); clear hp hb; (try clear c0 c1 c2 c3 c4 c5 c6 c7 c8 c9 z0 z1 z2 z3 z4 z5 z6 z7 z8 z9 hsz); obtain ⟨⟨c0, c1, c2, c3, c4, c5, c6, c7, c8, c9⟩, z0, z1, z2, z3, z4, z5, z6, z7, z8, z9⟩ := z10 BK2.out; have hsz : W.heap.size < w2.heap.size := blk_lt BK2.out; have HZ2 := Lib.hid hsz) | (go_at_call 75; (with_reducible refine (sign_of g toks en _ HN.out _ _ _ _ _ _ _ HS.out ?s1 HLEN.out _ ?sp ?s2 ?s3 ?s4).mono ?_); (case sp => exact (Uq1 HP2.out)); (case s1 => decide); (case s2 => exact strC_new (by simp) rfl (by decide)); (case s3 => decide); (case s4 => rfl); rintro e w3 ⟨rfl, hp, hb⟩; have HV2b := Lib.hid (vN.bu (ok := fun k => W.heap.size < k) (v := (.slice AA2 a.f4.length kk2)) (l := a.f4) (Uq8 HV2.out) hb (fun k hk => Nat.ne_of_gt (Nat.lt_trans HG.out hk))); have HP3 := Lib.hid hp; have HB3 := Lib.hid (Bu.trans (g := g) (a := W.alloc nd0) (Uq2 HB2.out) hb); have BK3 := Lib.hid (hb.blk (k := W.heap.size) (o := nd0) (Uq3 BK2.out) (Nat.ne_of_gt HG.out)); have BA := Lib.hid (hb.blk (k := w2.heap.size) (o := ndO a (.slice AA2 a.f4.length kk2)) (Uq3 BK2.out) (Nat.ne_of_gt (Nat.lt_trans HG.out HZ2.out))); clear hp hb; (try clear c0 c1 c2 c3 c4 c5 c6 c7 c8 c9 z0 z1 z2 z3 z4 z5 z6 z7 z8 z9 hsz); obtain ⟨⟨c0, c1, c2, c3, c4, c5, c6, c7, c8, c9⟩, z0, z1, z2, z3, z4, z5, z6, z7, z8, z9⟩ := z10 BK3.out; have hsz : W.heap.size < w3.heap.size := blk_lt BK3.out; have HZ3 := Lib.hid hsz; obtain ⟨⟨d0_0, d0_1, d0_2, d0_3, d0_4, d0_5, d0_6, d0_7, d0_8, d0_9⟩, -⟩ := z10 BA.out; have hd0_ := blk_lt BA.out) | (go_at_call 74; (with_reducible refine (HH.out.bad g _ ?sp).mono ?_); (case sp => exact (Uq1 HP3.out)); rintro e w4 ⟨hp, hb, q, rfl, he, hq⟩; have HE := Lib.hid he; have HQ := Lib.hid (lo (g := g) (o := nd0) (W := W) (Uq2 HB3.out) hq); clear he hq; have HP4 := Lib.hid hp; have HB4 := Lib.hid (Bu.trans (g := g) (a := W.alloc nd0) (Uq2 HB3.out) hb); have BK4 := Lib.hid (hb.blk (k := W.heap.size) (o := nd0) (Uq3 BK3.out) (Nat.ne_of_gt HG.out)); clear hp hb; (try clear c0 c1 c2 c3 c4 c5 c6 c7 c8 c9 z0 z1 z2 z3 z4 z5 z6 z7 z8 z9 hsz); obtain ⟨⟨c0, c1, c2, c3, c4, c5, c6, c7, c8, c9⟩, z0, z1, z2, z3, z4, z5, z6, z7, z8, z9⟩ := z10 BK4.out; have hsz : W.heap.size < w4.heap.size := blk_lt BK4.out; have HZ4 := Lib.hid hsz))
  refine bodyPost_ret (results_ct rfl _ _ W.heap.size 31 _ (0, 0) _ rfl (Uq4 BK4.out) hu rfl (by kernel_rfl)) rfl ?_
  refine ⟨?_, ?_, q, ?_, ?_, Nat.le_of_lt HQ.out⟩
  · exact (Uq5 HP4.out)
  · exact (Uq6 HB4.out)
  · rfl
  · exact (Uq7 HE.out)
set_option maxHeartbeats 8000000 in
set_option maxRecDepth 100000 in
theorem formula_two (toks : List Tok) (en i : Int) (n : Nat) (n1 n3 : Nat) (a b : TN) (hd : ¬ 40 < i) (hi : 0 ≤ i) (s : ByteArray) (n2 : Nat) (hs : signV toks n1 [⟨#[61]⟩, ⟨#[60, 62]⟩, ⟨#[60]⟩, ⟨#[60, 61]⟩, ⟨#[62]⟩, ⟨#[62, 61]⟩] = (s, true, n2)) (hn : n1 ≤ toks.length) (hlen : toks.length ≤ 1000000) (hf : Does 74 toks en i n (.ok a, n1)) (hg : Does 74 toks en i n2 (.ok b, n3)) : Does 51 toks en i n (.ok (twoT s a b), n3) := by
  intro g W hp
  have hu := Tryz.underlying31
  have HG := Lib.hid hp.lt
  have HP0 := Lib.hid (hp.alloc nd0)
  have HB0 := Lib.hid (Bu.refl g (W.alloc nd0))
  have BK0 := Lib.hid (blk_new W nd0)
  have HPW := Lib.hid hp
  clear hp
  have HD := Lib.hid hd
  have HF := Lib.hid hf
  have HH := Lib.hid hg
  have HS := Lib.hid hs
  have HN := Lib.hid hn
  have HLEN := Lib.hid hlen
  clear hd hf hg hs hn hlen
  clear hi
  go_enter Tryz.func51, Tryz.ntmps51
  go_wp2_with (first | (go_at_call 73; (with_reducible refine (deep_no _ _ HD.out).mono ?_); rintro e w1 ⟨rfl, hbl⟩; have hb := Bu.of_below (g := g) hbl; have hp := PS.below (g := g) (toks := toks) (en := en) (at_ := (n : Int)) (Uq1 HP0.out) hbl; clear hbl; have HP1 := Lib.hid hp; have HB1 := Lib.hid (Bu.trans (g := g) (a := W.alloc nd0) (Uq2 HB0.out) hb); have BK1 := Lib.hid (hb.blk (k := W.heap.size) (o := nd0) (Uq3 BK0.out) (Nat.ne_of_gt HG.out)); clear hp hb; (try clear c0 c1 c2 c3 c4 c5 c6 c7 c8 c9 z0 z1 z2 z3 z4 z5 z6 z7 z8 z9 hsz); obtain ⟨⟨c0, c1, c2, c3, c4, c5, c6, c7, c8, c9⟩, z0, z1, z2, z3, z4, z5, z6, z7, z8, z9⟩ := z10 BK1.out; have hsz : W.heap.size < w1.heap.size := blk_lt BK1.out; have HZ1 := Lib.hid hsz) | (go_at_call 74; (fail_if_success have := HP2); (with_reducible refine (HF.out.ok g _ ?sp).mono ?_); (case sp => exact (Uq1 HP1.out)); rintro e w2 ⟨hp, hb, v2, rfl, hv⟩; obtain ⟨AA2, kk2, rfl⟩ := Kd.V_slice hv; have HV2 := Lib.hid (Kd.V_mono hv (fun k hk => lo (g := g) (o := nd0) (W := W) (Uq2 HB1.out) hk)); clear hv; have HP2 := Lib.hid hp; have HB2 := Lib.hid (Bu.trans (g := g) (a := W.alloc nd0) (Uq2 HB1.out) hb); have BK2 := Lib.hid (hb.blk (k := W.heap.size) (o := nd0) (Uq3 BK1.out) (Nat.ne_of_gt HG.out)); clear hp hb; (try clear c0 c1 c2 c3 c4 c5 c6 c7 c8 c9 z0 z1 z2 z3 z4 z5 z6 z7 z8 z9 hsz); obtain ⟨⟨c0, c1, c2, c3, c4, c5, c6, c7, c8, c9⟩, z0, z1, z2, z3, z4, z5, z6, z7, z8, z9⟩ := z10 BK2.out; have hsz : W.heap.size < w2.heap.size := blk_lt BK2.out; have HZ2 := Lib.hid hsz) | (go_at_call 75; (with_reducible refine (sign_of g toks en _ HN.out _ _ _ _ _ _ _ HS.out ?s1 HLEN.out _ ?sp ?s2 ?s3 ?s4).mono ?_); (case sp => exact (Uq1 HP2.out)); (case s1 => decide); (case s2 => exact strC_new (by simp) rfl (by decide)); (case s3 => decide); (case s4 => rfl); rintro e w3 ⟨rfl, hp, hb⟩; have HV2b := Lib.hid (vN.bu (ok := fun k => W.heap.size < k) (v := (.slice AA2 a.f4.length kk2)) (l := a.f4) (Uq8 HV2.out) hb (fun k hk => Nat.ne_of_gt (Nat.lt_trans HG.out hk))); have HP3 := Lib.hid hp; have HB3 := Lib.hid (Bu.trans (g := g) (a := W.alloc nd0) (Uq2 HB2.out) hb); have BK3 := Lib.hid (hb.blk (k := W.heap.size) (o := nd0) (Uq3 BK2.out) (Nat.ne_of_gt HG.out)); have BA := Lib.hid (hb.blk (k := w2.heap.size) (o := ndO a (.slice AA2 a.f4.length kk2)) (Uq3 BK2.out) (Nat.ne_of_gt (Nat.lt_trans HG.out HZ2.out))); clear hp hb; (try clear c0 c1 c2 c3 c4 c5 c6 c7 c8 c9 z0 z1 z2 z3 z4 z5 z6 z7 z8 z9 hsz); obtain ⟨⟨c0, c1, c2, c3, c4, c5, c6, c7, c8, c9⟩, z0, z1, z2, z3, z4, z5, z6, z7, z8, z9⟩ := z10 BK3.out; have hsz : W.heap.size < w3.heap.size := blk_lt BK3.out; have HZ3 := Lib.hid hsz; obtain ⟨⟨d0_0, d0_1, d0_2, d0_3, d0_4, d0_5, d0_6, d0_7, d0_8, d0_9⟩, -⟩ := z10 BA.out; have hd0_ := blk_lt BA.out) | (go_at_call 74; (fail_if_success have := HP4); (with_reducible refine (HH.out.ok g _ ?sp).mono ?_); (case sp => exact (Uq1 HP3.out)); rintro e w4 ⟨hp, hb, v4, rfl, hv⟩; obtain ⟨AA4, kk4, rfl⟩ := Kd.V_slice hv; have HV4 := Lib.hid (Kd.V_mono hv (fun k hk => lo (g := g) (o := nd0) (W := W) (Uq2 HB3.out) hk)); clear hv; have HV2bb := Lib.hid (vN.bu (ok := fun k => W.heap.size < k) (v := (.slice AA2 a.f4.length kk2)) (l := a.f4) (Uq8 HV2b.out) hb (fun k hk => Nat.ne_of_gt (Nat.lt_trans HG.out hk))); have HP4 := Lib.hid hp; have HB4 := Lib.hid (Bu.trans (g := g) (a := W.alloc nd0) (Uq2 HB3.out) hb); have BK4 := Lib.hid (hb.blk (k := W.heap.size) (o := nd0) (Uq3 BK3.out) (Nat.ne_of_gt HG.out)); have BA2 := Lib.hid (hb.blk (k := w2.heap.size) (o := ndO a (.slice AA2 a.f4.length kk2)) (Uq3 BA.out) (Nat.ne_of_gt (Nat.lt_trans HG.out HZ2.out))); clear hp hb; (try clear c0 c1 c2 c3 c4 c5 c6 c7 c8 c9 z0 z1 z2 z3 z4 z5 z6 z7 z8 z9 hsz); obtain ⟨⟨c0, c1, c2, c3, c4, c5, c6, c7, c8, c9⟩, z0, z1, z2, z3, z4, z5, z6, z7, z8, z9⟩ := z10 BK4.out; have hsz : W.heap.size < w4.heap.size := blk_lt BK4.out; have HZ4 := Lib.hid hsz; obtain ⟨⟨d0_0, d0_1, d0_2, d0_3, d0_4, d0_5, d0_6, d0_7, d0_8, d0_9⟩, -⟩ := z10 BA2.out; have hd0_ := blk_lt BA2.out) | (go_at_call 76; (with_reducible refine (two_calls (fun k => W.heap.size < k) _ a b (.slice AA2 a.f4.length kk2) (.slice AA4 b.f4.length kk4) _ ?sk ?sa ?sb).mono ?_); (case sk => exact (fun k hk => lo (g := g) (o := nd0) (W := W) (Uq2 HB4.out) hk)); (case sa => exact (Uq8 HV2bb.out)); (case sb => exact (Uq8 HV4.out)); rintro e w5 ⟨v5, rfl, hv, hbl⟩; obtain ⟨AA5, kk5, rfl⟩ := Kd.V_slice hv; have HV5 := Lib.hid hv; clear hv; have hb := Bu.of_below (g := g) hbl; have hp := PS.below (g := g) (toks := toks) (en := en) (at_ := (n3 : Int)) (Uq1 HP4.out) hbl; clear hbl; have HP5 := Lib.hid hp; have HB5 := Lib.hid (Bu.trans (g := g) (a := W.alloc nd0) (Uq2 HB4.out) hb); have BK5 := Lib.hid (hb.blk (k := W.heap.size) (o := nd0) (Uq3 BK4.out) (Nat.ne_of_gt HG.out)); clear hp hb; (try clear c0 c1 c2 c3 c4 c5 c6 c7 c8 c9 z0 z1 z2 z3 z4 z5 z6 z7 z8 z9 hsz); obtain ⟨⟨c0, c1, c2, c3, c4, c5, c6, c7, c8, c9⟩, z0, z1, z2, z3, z4, z5, z6, z7, z8, z9⟩ := z10 BK5.out; have hsz : W.heap.size < w5.heap.size := blk_lt BK5.out; have HZ5 := Lib.hid hsz))
  refine bodyPost_ret (results_ct rfl _ _ W.heap.size 31 _ (0, 0) _ rfl (Uq4 BK5.out) hu rfl (by kernel_rfl)) rfl ?_
  refine ⟨?_, ?_, (.slice AA5 (twoT s a b).f4.length kk5), ?_, Kd.V_mono ?_ (fun k hk => Nat.le_of_lt hk)⟩
  · exact (Uq5 HP5.out)
  · exact (Uq6 HB5.out)
  · rfl
  · exact (Uq9 HV5.out)
end Go.Proofs.YtnomfbmebafolaaGreatDoor.P

namespace Go.Proofs.YtnomfbmebafolaaGreatDoor.P
open Go.RowKit Go.Proofs.YtnomfbmebafolaaGreatDoorW.PrintWords Go.Proofs.YtnomfbmebafolaaGreatDoorW.PrintLast Go.Proofs.YtnomfbmebafolaaGreatDoorW.PrintMore
attribute [local go_sem] max2_int min2_int max_two min_two max_three min_three max_four min_four   -- for this text's walks alone
set_option linter.unusedVariables false
set_option linter.unusedSimpArgs false
def value_Fail.f (a0 : Int) : Option (Int × Int × ByteArray) := if a0 < 1 then (some (0, 0, (⟨#[]⟩ : ByteArray))) else (if a0 > 8 then (some (0, 0, (⟨#[]⟩ : ByteArray))) else (some (4, a0, (⟨#[]⟩ : ByteArray))))
set_option maxHeartbeats 8000000 in
set_option maxRecDepth 100000 in
theorem value_Fail.calls (a0 : Int) (r1 : Int) (r2 : Int) (r3 : ByteArray) (w : World) (h : value_Fail.f a0 = some (r1, r2, r3)) :
    Calls Tryz.prog 60 #[.int .i64 a0] w fun e w' => e = .returned (.agg #[.int .i64 r1, .int .i64 r2, .string r3]) ∧ Below w.heap.size w w' := by
  have hu24 := Tryz.underlying24
  have HB := Aside0.mk (Below.refl w.heap.size w)
  have H : (if a0 < 1 then (some (0, 0, (⟨#[]⟩ : ByteArray))) else (if a0 > 8 then (some (0, 0, (⟨#[]⟩ : ByteArray))) else (some (4, a0, (⟨#[]⟩ : ByteArray))))) = some (r1, r2, r3) := h
  clear h
  by_cases c2 : a0 < 1
  · rw [if_pos c2] at H
    have c2b0 : decide (a0 < 1) = true := decide_eq_true c2
    clear c2
    simp only [Option.some.injEq, Prod.mk.injEq] at H
    obtain ⟨rfl, rfl, rfl⟩ := H
    go_enter Tryz.func60, Tryz.ntmps60
    go_wp2_with (first | ((with_reducible refine gate_dst (N := 2) rfl ?_); refine box_event ?hg (N := 2) ?hd (cs := #[.int .i64 0, .int .i64 0, .string (⟨#[]⟩ : ByteArray)]) (t := 24) ?hr ?_; (case hd => rfl); (case hg => rfl); (case hr => first | (go_simp; done) | (go_simp; rfl)); intro gb162 hg w3 hbox hb; have n0_ := Aside0.mk (below_step (by repeat first | with_reducible exact HB.out | apply zS | exact HB.out) hb); have n1_ := Aside0.mk (hbox); have n2_ := Aside0.mk ((by rw [hg]; exact (below_size (by repeat first | with_reducible exact HB.out | apply zS | exact HB.out)) : w.heap.size ≤ gb162)); have n3_ := n2_; clear HB; have HB := n0_; have BK162 := n1_; have GW162 := n2_; have GE162 := n3_; clear n0_ n1_ n2_ n3_; clear hb hbox hg; obtain ⟨hcz4_0, hcz4_1, hcz4_2, hfz4_0, hfz4_1, hfz4_2⟩ := zC3 BK162.out))
    refine bodyPost_ret (results_cell_row rfl _ _ gb162 24 #[.int .i64 0, .int .i64 0, .string (⟨#[]⟩ : ByteArray)] (0, 0) _ rfl (by refine zB ?_; refine blk_put (cs := #[.int .i64 0, .int .i64 0, .string (⟨#[]⟩ : ByteArray)]) ?_ 2 _ rfl; refine zB ?_; refine blk_put (cs := #[.int .i64 0, .int .i64 0, .string (⟨#[]⟩ : ByteArray)]) ?_ 1 _ rfl; refine zB ?_; refine blk_put (cs := #[.int .i64 0, .int .i64 0, .string (⟨#[]⟩ : ByteArray)]) ?_ 0 _ rfl; refine zB ?_; exact BK162.out) Tryz.underlying24 rfl (by kernel_rfl)) rfl ?_
    exact ⟨by first | rfl | (simp [errW_none, errW_some] <;> rfl) | (simp [*, errW_none, errW_some] <;> rfl), by repeat first | with_reducible exact HB.out | apply zS | refine below_set ?_ GE162.out | exact HB.out⟩
  · rw [if_neg c2] at H
    have c2b0 : decide (a0 < 1) = false := decide_eq_false c2
    clear c2
    by_cases c5 : a0 > 8
    · rw [if_pos c5] at H
      have c5b0 : decide (8 < a0) = true := decide_eq_true c5
      clear c5
      simp only [Option.some.injEq, Prod.mk.injEq] at H
      obtain ⟨rfl, rfl, rfl⟩ := H
      go_enter Tryz.func60, Tryz.ntmps60
      go_wp2_with (first | ((with_reducible refine gate_dst (N := 2) rfl ?_); refine box_event ?hg (N := 2) ?hd (cs := #[.int .i64 0, .int .i64 0, .string (⟨#[]⟩ : ByteArray)]) (t := 24) ?hr ?_; (case hd => rfl); (case hg => rfl); (case hr => first | (go_simp; done) | (go_simp; rfl)); intro gb162 hg w6 hbox hb; have n0_ := Aside0.mk (below_step (by repeat first | with_reducible exact HB.out | apply zS | exact HB.out) hb); have n1_ := Aside0.mk (hbox); have n2_ := Aside0.mk ((by rw [hg]; exact (below_size (by repeat first | with_reducible exact HB.out | apply zS | exact HB.out)) : w.heap.size ≤ gb162)); have n3_ := n2_; clear HB; have HB := n0_; have BK162 := n1_; have GW162 := n2_; have GE162 := n3_; clear n0_ n1_ n2_ n3_; clear hb hbox hg; obtain ⟨hcz7_0, hcz7_1, hcz7_2, hfz7_0, hfz7_1, hfz7_2⟩ := zC3 BK162.out))
      refine bodyPost_ret (results_cell_row rfl _ _ gb162 24 #[.int .i64 0, .int .i64 0, .string (⟨#[]⟩ : ByteArray)] (0, 0) _ rfl (by refine zB ?_; refine blk_put (cs := #[.int .i64 0, .int .i64 0, .string (⟨#[]⟩ : ByteArray)]) ?_ 2 _ rfl; refine zB ?_; refine blk_put (cs := #[.int .i64 0, .int .i64 0, .string (⟨#[]⟩ : ByteArray)]) ?_ 1 _ rfl; refine zB ?_; refine blk_put (cs := #[.int .i64 0, .int .i64 0, .string (⟨#[]⟩ : ByteArray)]) ?_ 0 _ rfl; refine zB ?_; exact BK162.out) Tryz.underlying24 rfl (by kernel_rfl)) rfl ?_
      exact ⟨by first | rfl | (simp [errW_none, errW_some] <;> rfl) | (simp [*, errW_none, errW_some] <;> rfl), by repeat first | with_reducible exact HB.out | apply zS | refine below_set ?_ GE162.out | exact HB.out⟩
    · rw [if_neg c5] at H
      have c5b0 : decide (8 < a0) = false := decide_eq_false c5
      clear c5
      simp only [Option.some.injEq, Prod.mk.injEq] at H
      obtain ⟨rfl, rfl, rfl⟩ := H
      go_enter Tryz.func60, Tryz.ntmps60
      go_wp2_with (first | ((with_reducible refine gate_dst (N := 2) rfl ?_); refine box_event ?hg (N := 2) ?hd (cs := #[.int .i64 0, .int .i64 0, .string (⟨#[]⟩ : ByteArray)]) (t := 24) ?hr ?_; (case hd => rfl); (case hg => rfl); (case hr => first | (go_simp; done) | (go_simp; rfl)); intro gb162 hg w8 hbox hb; have n0_ := Aside0.mk (below_step (by repeat first | with_reducible exact HB.out | apply zS | exact HB.out) hb); have n1_ := Aside0.mk (hbox); have n2_ := Aside0.mk ((by rw [hg]; exact (below_size (by repeat first | with_reducible exact HB.out | apply zS | exact HB.out)) : w.heap.size ≤ gb162)); have n3_ := n2_; clear HB; have HB := n0_; have BK162 := n1_; have GW162 := n2_; have GE162 := n3_; clear n0_ n1_ n2_ n3_; clear hb hbox hg; obtain ⟨hcz9_0, hcz9_1, hcz9_2, hfz9_0, hfz9_1, hfz9_2⟩ := zC3 BK162.out))
      refine bodyPost_ret (results_cell_row rfl _ _ gb162 24 #[.int .i64 4, .int .i64 a0, .string (⟨#[]⟩ : ByteArray)] (0, 0) _ rfl (by refine zB ?_; refine blk_put (cs := #[.int .i64 4, .int .i64 a0, .string (⟨#[]⟩ : ByteArray)]) ?_ 2 _ rfl; refine zB ?_; refine blk_put (cs := #[.int .i64 4, .int .i64 0, .string (⟨#[]⟩ : ByteArray)]) ?_ 1 _ rfl; refine zB ?_; refine blk_put (cs := #[.int .i64 0, .int .i64 0, .string (⟨#[]⟩ : ByteArray)]) ?_ 0 _ rfl; refine zB ?_; exact BK162.out) Tryz.underlying24 rfl (by kernel_rfl)) rfl ?_
      exact ⟨by first | rfl | (simp [errW_none, errW_some] <;> rfl) | (simp [*, errW_none, errW_some] <;> rfl), by repeat first | with_reducible exact HB.out | apply zS | refine below_set ?_ GE162.out | exact HB.out⟩
end Go.Proofs.YtnomfbmebafolaaGreatDoor.P

namespace Go.Proofs.YtnomfbmebafolaaGreatDoor.P
open Go.RowKit Go.Proofs.YtnomfbmebafolaaGreatDoorW.PrintWords Go.Proofs.YtnomfbmebafolaaGreatDoorW.PrintLast Go.Proofs.YtnomfbmebafolaaGreatDoorW.PrintMore
attribute [local go_sem] max2_int min2_int max_two min_two max_three min_three max_four min_four   -- for this text's walks alone
set_option linter.unusedVariables false
set_option linter.unusedSimpArgs false
def value_Of.f (a0 : ByteArray) : Option (Int × Int × ByteArray) := if (a0.size : Int) > 200 then ((value_Fail.f 7).bind fun bt164 => (some (bt164.1, bt164.2.1, bt164.2.2))) else (some (3, 0, a0))
set_option maxHeartbeats 8000000 in
set_option maxRecDepth 100000 in
theorem value_Of.calls (a0 : ByteArray) (r1 : Int) (r2 : Int) (r3 : ByteArray) (w : World) (h : value_Of.f a0 = some (r1, r2, r3)) :
    Calls Tryz.prog 40 #[.string a0] w fun e w' => e = .returned (.agg #[.int .i64 r1, .int .i64 r2, .string r3]) ∧ Below w.heap.size w w' := by
  have hu24 := Tryz.underlying24
  have HB := Aside0.mk (Below.refl w.heap.size w)
  have H : (if (a0.size : Int) > 200 then ((value_Fail.f 7).bind fun bt164 => (some (bt164.1, bt164.2.1, bt164.2.2))) else (some (3, 0, a0))) = some (r1, r2, r3) := h
  clear h
  by_cases c2 : (a0.size : Int) > 200
  · rw [if_pos c2] at H
    have c2b0 : decide (200 < (a0.size : Int)) = true := decide_eq_true c2
    have c2b1 : decide (200 < a0.size) = true := decide_eq_true (by omega)
    clear c2
    replace H := Option.bind_eq_some_iff.mp H
    obtain ⟨⟨t164, t165, t166⟩, A30, H⟩ := H
    replace H : (some (t164, t165, t166)) = some (r1, r2, r3) := H
    have A3 := Aside0.mk A30
    clear A30
    simp only [Option.some.injEq, Prod.mk.injEq] at H
    obtain ⟨rfl, rfl, rfl⟩ := H
    go_enter Tryz.func40, Tryz.ntmps40
    go_wp2_with (first | ((with_reducible refine gate_dst (N := 2) rfl ?_); refine box_event ?hg (N := 2) ?hd (cs := #[.int .i64 0, .int .i64 0, .string (⟨#[]⟩ : ByteArray)]) (t := 24) ?hr ?_; (case hd => rfl); (case hg => rfl); (case hr => first | (go_simp; done) | (go_simp; rfl)); intro gb163 hg w4 hbox hb; have n0_ := Aside0.mk (below_step (by repeat first | with_reducible exact HB.out | apply zS | exact HB.out) hb); have n1_ := Aside0.mk (hbox); have n2_ := Aside0.mk ((by rw [hg]; exact (below_size (by repeat first | with_reducible exact HB.out | apply zS | exact HB.out)) : w.heap.size ≤ gb163)); have n3_ := n2_; clear HB; have HB := n0_; have BK163 := n1_; have GW163 := n2_; have GE163 := n3_; clear n0_ n1_ n2_ n3_; clear hb hbox hg) | ((with_reducible refine gate_callee (f := 60) rfl ?_); refine goesL_ (some 6) rfl rfl Tryz.func60 (by kernel_rfl) rfl #[.int .i64 7] rfl (by (try simp only [List.map_toArray, List.map_cons, List.map_nil]); first | done | rfl | (simp only [List.length_drop, List.length_take]; rfl)) ?_; (with_reducible refine (value_Fail.calls 7 t164 t165 t166 _ A3.out).mono ?_); rintro e w5 ⟨rfl, hb⟩; refine ⟨_, rfl, ?_⟩; have n0_ := Aside0.mk (blk_below (g := gb163) (o := .cells #[.int .i64 0, .int .i64 0, .string (⟨#[]⟩ : ByteArray)] 24 (0, 0)) (zB BK163.out) hb); have n1_ := Aside0.mk (below_step (by repeat first | with_reducible exact HB.out | apply zS | refine below_set ?_ GE163.out | exact HB.out) hb); clear BK163; clear HB; have BK163 := n0_; have HB := n1_; clear n0_ n1_; (try clear hb); (try clear hb2); (try clear hk); (try clear hi); obtain ⟨hcz6_0, hcz6_1, hcz6_2, hfz6_0, hfz6_1, hfz6_2⟩ := zC3 BK163.out))
    refine bodyPost_ret (results_cell_row rfl _ _ gb163 24 #[.int .i64 t164, .int .i64 t165, .string t166] (0, 0) _ rfl (by refine zB ?_; refine blk_put (cs := #[.int .i64 t164, .int .i64 t165, .string (⟨#[]⟩ : ByteArray)]) ?_ 2 _ rfl; refine zB ?_; refine blk_put (cs := #[.int .i64 t164, .int .i64 0, .string (⟨#[]⟩ : ByteArray)]) ?_ 1 _ rfl; refine zB ?_; refine blk_put (cs := #[.int .i64 0, .int .i64 0, .string (⟨#[]⟩ : ByteArray)]) ?_ 0 _ rfl; refine zB ?_; exact BK163.out) Tryz.underlying24 rfl (by kernel_rfl)) rfl ?_
    exact ⟨by first | rfl | (simp [errW_none, errW_some] <;> rfl) | (simp [*, errW_none, errW_some] <;> rfl), by repeat first | with_reducible exact HB.out | apply zS | refine below_set ?_ GE163.out | exact HB.out⟩
  · rw [if_neg c2] at H
    have c2b0 : decide (200 < (a0.size : Int)) = false := decide_eq_false c2
    have c2b1 : decide (200 < a0.size) = false := decide_eq_false (by omega)
    clear c2
    simp only [Option.some.injEq, Prod.mk.injEq] at H
    obtain ⟨rfl, rfl, rfl⟩ := H
    go_enter Tryz.func40, Tryz.ntmps40
    go_wp2_with (first | ((with_reducible refine gate_dst (N := 2) rfl ?_); refine box_event ?hg (N := 2) ?hd (cs := #[.int .i64 0, .int .i64 0, .string (⟨#[]⟩ : ByteArray)]) (t := 24) ?hr ?_; (case hd => rfl); (case hg => rfl); (case hr => first | (go_simp; done) | (go_simp; rfl)); intro gb163 hg w7 hbox hb; have n0_ := Aside0.mk (below_step (by repeat first | with_reducible exact HB.out | apply zS | exact HB.out) hb); have n1_ := Aside0.mk (hbox); have n2_ := Aside0.mk ((by rw [hg]; exact (below_size (by repeat first | with_reducible exact HB.out | apply zS | exact HB.out)) : w.heap.size ≤ gb163)); have n3_ := n2_; clear HB; have HB := n0_; have BK163 := n1_; have GW163 := n2_; have GE163 := n3_; clear n0_ n1_ n2_ n3_; clear hb hbox hg; obtain ⟨hcz8_0, hcz8_1, hcz8_2, hfz8_0, hfz8_1, hfz8_2⟩ := zC3 BK163.out))
    refine bodyPost_ret (results_cell_row rfl _ _ gb163 24 #[.int .i64 3, .int .i64 0, .string a0] (0, 0) _ rfl (by refine zB ?_; refine blk_put (cs := #[.int .i64 3, .int .i64 0, .string (⟨#[]⟩ : ByteArray)]) ?_ 2 _ rfl; refine zB ?_; refine blk_put (cs := #[.int .i64 3, .int .i64 0, .string (⟨#[]⟩ : ByteArray)]) ?_ 1 _ rfl; refine zB ?_; refine blk_put (cs := #[.int .i64 0, .int .i64 0, .string (⟨#[]⟩ : ByteArray)]) ?_ 0 _ rfl; refine zB ?_; exact BK163.out) Tryz.underlying24 rfl (by kernel_rfl)) rfl ?_
    exact ⟨by first | rfl | (simp [errW_none, errW_some] <;> rfl) | (simp [*, errW_none, errW_some] <;> rfl), by repeat first | with_reducible exact HB.out | apply zS | refine below_set ?_ GE163.out | exact HB.out⟩
end Go.Proofs.YtnomfbmebafolaaGreatDoor.P

namespace Go.Proofs.YtnomfbmebafolaaGreatDoor.P
open Go.RowKit Go.Proofs.YtnomfbmebafolaaGreatDoorW.PrintWords Go.Proofs.YtnomfbmebafolaaGreatDoorW.PrintLast Go.Proofs.YtnomfbmebafolaaGreatDoorW.PrintMore
open M (I64)
set_option linter.unusedVariables false
set_option linter.unusedSimpArgs false
theorem PS.drewN {g : Nat} {toks : List Tok} {en at_ : Int} {W : World} (h : PS g toks en at_ W) (m : Nat) : PS g toks en at_ (W.drewN m) := h.below (pw_below_drewN (Below.refl _ _) m)
theorem Bu.to_drewN {g : Nat} {W V : World} (h : Bu g W V) (m : Nat) : Bu g W (V.drewN m) := h.trans (.of_below (pw_below_drewN (Below.refl _ _) m))
theorem Uq10 {p q : Prop} (h0 : p) (h : p → q := by intro h_; with_reducible repeat (first | exact h_ | refine PS.alloc ?_ _ | refine PS.drewN ?_ _)) : q := h h0
theorem Uq11 {p q : Prop} (h0 : p) (h : p → q := by intro h_; with_reducible repeat (first | exact h_ | exact Bu.refl _ _ | refine Bu.to_alloc ?_ _ | refine Bu.to_drewN ?_ _)) : q := h h0
theorem Uq12 {p q : Prop} (h0 : p) (h : p → q := by intro h_; with_reducible repeat (first | exact h_ | refine PS.alloc ?_ _ | refine PS.drewN ?_ _ | refine PS.drew ?_ | refine PS.put (at_ := (n : Int)) ?_ _ | refine put10_ps ?_ HG.out _ _ _ _ _ _ _ _ _ _)) : q := h h0
theorem Uq13 {p q : Prop} (h0 : p) (h : p → q := by intro h_; with_reducible repeat (first | exact (Bu.alloc g W nd0).trans h_ | refine Bu.to_alloc ?_ _ | refine Bu.to_drewN ?_ _ | refine Bu.to_drew ?_ | refine Bu.to_set ?_ _ _ | refine put10_bu ?_ (Nat.le_refl _) _ _ _ _ _ _ _ _ _ _)) : q := h h0
theorem Uq14 {p q : Prop} (h0 : p) (h : p → q := by intro h_; with_reducible repeat (first | exact h_ | exact Bu.refl _ _ | refine Bu.to_alloc ?_ _ | refine Bu.to_drewN ?_ _ | refine Bu.to_drew ?_ | refine Bu.to_set ?_ _ _ | refine put10_bu ?_ (Nat.le_refl _) _ _ _ _ _ _ _ _ _ _)) : q := h h0
theorem Uq15 {p q : Prop} (h0 : p) (h : p → q := by intro h_; with_reducible repeat (first | exact h_ | exact blk_new _ _ | refine blk_alloc ?_ _ | refine blk_drewN ?_ _ | refine blk_drew ?_ | refine blk_set ?_ (Nat.ne_of_gt HG.out) _)) : q := h h0
theorem Uq16 {p q : Prop} (h0 : p) (h : p → q := by intro h_; with_reducible repeat (first | exact put10_blk h_ _ _ _ _ _ _ _ _ _ _ | refine put10_nd ?_ _ _ _ _ _ _ _ _ _ _ | exact BK1.out | exact blk_new _ _ | refine blk_alloc ?_ _ | refine blk_drewN ?_ _ | refine blk_drew ?_ | refine blk_set ?_ (Nat.ne_of_gt HG.out) _)) : q := h h0
theorem Uq17 {p q : Prop} (h0 : p) (h : p → q := by intro h_; with_reducible repeat (first | exact put10_blk h_ _ _ _ _ _ _ _ _ _ _ | refine put10_nd ?_ _ _ _ _ _ _ _ _ _ _ | exact BK2.out | exact blk_new _ _ | refine blk_alloc ?_ _ | refine blk_drewN ?_ _ | refine blk_drew ?_ | refine blk_set ?_ (Nat.ne_of_gt HG.out) _)) : q := h h0
set_option maxHeartbeats 8000000 in
set_option maxRecDepth 100000 in
theorem part_end (toks : List Tok) (en i : Int) (n : Nat) (hn : n = toks.length) : Does 132 toks en i n (.bad (placeV toks en n) 13, n) := by
  intro g W hp
  have hu := Tryz.underlying31
  have HG := Lib.hid hp.lt
  have HP0 := Lib.hid (hp.alloc nd0)
  have HB0 := Lib.hid (Bu.refl g (W.alloc nd0))
  have BK0 := Lib.hid (blk_new W nd0)
  have HPW := Lib.hid hp
  clear hp
  obtain ⟨At, ct, p0, p1, p2, y1, hpb, hpF⟩ := (HP0.out).cells
  have HPF := Lib.hid hpF
  clear hpb hpF y1
  have hq : ((n : Int) == (toks.length : Int)) = true := by subst hn; simp
  have HN := Lib.hid (Nat.le_of_eq hn)
  clear hn
  go_enter Tryz.func132, Tryz.ntmps132
  go_wp2_with (first | (go_at_call 52; (with_reducible refine (fail_calls g toks en n HN.out _ ?sp).mono ?_); (case sp => exact (Uq10 HP0.out)); rintro e w1 ⟨q, rfl, he, hq, hbl⟩; have HE := Lib.hid he; have HQ := Lib.hid (lo (g := g) (o := nd0) (W := W) (Uq11 HB0.out) hq); have hb := Bu.of_below (g := g) hbl; have hp := PS.below (g := g) (toks := toks) (en := en) (at_ := (n : Int)) (Uq10 HP0.out) hbl; clear he hq hbl; have HP1 := Lib.hid hp; have HB1 := Lib.hid (Bu.trans (g := g) (a := W.alloc nd0) (Uq11 HB0.out) hb); have BK1 := Lib.hid (hb.blk (k := W.heap.size) (o := nd0) (by with_reducible repeat (first | exact BK0.out | exact blk_new _ _ | refine blk_alloc ?_ _ | refine blk_drewN ?_ _)) (Nat.ne_of_gt HG.out)); clear hp hb; (try clear c0 c1 c2 c3 c4 c5 c6 c7 c8 c9 z0 z1 z2 z3 z4 z5 z6 z7 z8 z9 hsz); obtain ⟨⟨c0, c1, c2, c3, c4, c5, c6, c7, c8, c9⟩, z0, z1, z2, z3, z4, z5, z6, z7, z8, z9⟩ := z10 BK1.out; have hsz : W.heap.size < w1.heap.size := blk_lt BK1.out; have HZ1 := Lib.hid hsz))
  repeat (go_quiet (fail); try go_wp2_with (first | (go_at_call 52; (with_reducible refine (fail_calls g toks en n HN.out _ ?sp).mono ?_); (case sp => exact (Uq10 HP0.out)); rintro e w1 ⟨q, rfl, he, hq, hbl⟩; have HE := Lib.hid he; have HQ := Lib.hid (lo (g := g) (o := nd0) (W := W) (Uq11 HB0.out) hq); have hb := Bu.of_below (g := g) hbl; have hp := PS.below (g := g) (toks := toks) (en := en) (at_ := (n : Int)) (Uq10 HP0.out) hbl; clear he hq hbl; have HP1 := Lib.hid hp; have HB1 := Lib.hid (Bu.trans (g := g) (a := W.alloc nd0) (Uq11 HB0.out) hb); have BK1 := Lib.hid (hb.blk (k := W.heap.size) (o := nd0) (by with_reducible repeat (first | exact BK0.out | exact blk_new _ _ | refine blk_alloc ?_ _ | refine blk_drewN ?_ _)) (Nat.ne_of_gt HG.out)); clear hp hb; (try clear c0 c1 c2 c3 c4 c5 c6 c7 c8 c9 z0 z1 z2 z3 z4 z5 z6 z7 z8 z9 hsz); obtain ⟨⟨c0, c1, c2, c3, c4, c5, c6, c7, c8, c9⟩, z0, z1, z2, z3, z4, z5, z6, z7, z8, z9⟩ := z10 BK1.out; have hsz : W.heap.size < w1.heap.size := blk_lt BK1.out; have HZ1 := Lib.hid hsz)))
  refine bodyPost_ret (results_ct rfl _ _ W.heap.size 31 _ (0, 0) _ rfl (Uq4 BK1.out) hu rfl (by kernel_rfl)) rfl ?_
  refine ⟨?_, ?_, q, ?_, ?_, Nat.le_of_lt HQ.out⟩
  · exact (Uq5 HP1.out)
  · exact (Uq6 HB1.out)
  · rfl
  · exact (Uq7 HE.out)
theorem Bu.to_set {g : Nat} {W V : World} (h : Bu g W V) (j : Nat) (u : Value) : Bu g W (V.setCell ⟨g, j, none⟩ u) := h.trans (Bu.set g V j u)
theorem blk_set {g k j : Nat} {W : World} {o : Obj} (h : W.heap[k]? = some o) (hk : k ≠ g) (u : Value) : (W.setCell ⟨g, j, none⟩ u).heap[k]? = some o := (Below.heap_setCell W ⟨g, j, none⟩ u k hk).trans h
theorem put10_nd {W : World} {g : Nat} (h : W.heap[g]? = some nd0) (u0 u1 u2 u3 u4 u5 u6 u7 u8 u9 : Value) : (put10 W g u0 u1 u2 u3 u4 u5 u6 u7 u8 u9).heap[g]? = some (.cells #[u0, u1, u2, u3, u4, u5, u6, u7, u8, u9] 31 (0, 0)) := put10_blk h u0 u1 u2 u3 u4 u5 u6 u7 u8 u9
def constT (v : S24) : TN := ⟨1, v, ⟨⟨0, 0⟩, ⟨0, 0⟩⟩, ⟨#[]⟩, []⟩
theorem PS.tok' {g : Nat} {toks : List Tok} {W : World} {A : Option Addr} (h2 : Kd.F k137 W (fun k => k < g) A toks.length toks) (n : Nat) (tk : Tok) (ht : toks[n]? = some tk) :
    n < toks.length ∧ ∃ ad, A = some ad ∧ W.cell? (ad.add (n * 4)) = some (.int .i64 tk.f0) ∧ W.cell? ⟨(ad.add (n * 4)).block, (ad.add (n * 4)).off + 1, none⟩ = some (.int .i64 tk.f1) ∧ W.cell? ⟨(ad.add (n * 4)).block, (ad.add (n * 4)).off + 2, none⟩ = some (.string tk.f2) ∧ W.cell? ⟨(ad.add (n * 4)).block, (ad.add (n * 4)).off + 3, none⟩ = some (.int .i64 tk.f3) := by
  obtain ⟨hn, rfl⟩ := List.getElem?_eq_some_iff.1 ht
  exact ⟨hn, PS.tok h2 n hn⟩
set_option maxHeartbeats 8000000 in
set_option maxRecDepth 100000 in
theorem part_int (toks : List Tok) (en i : Int) (n : Nat) (tk : Tok) (ht : toks[n]? = some tk) (hlen : toks.length ≤ 1000000) (hk : tk.f0 = 1) : Does 132 toks en i n (.ok (constT ⟨2, tk.f1, ⟨#[]⟩⟩), n + 1) := by
  intro g W hp
  have hu := Tryz.underlying31
  have HG := Lib.hid hp.lt
  have HP0 := Lib.hid (hp.alloc nd0)
  have HB0 := Lib.hid (Bu.refl g (W.alloc nd0))
  have BK0 := Lib.hid (blk_new W nd0)
  have HPW := Lib.hid hp
  clear hp
  obtain ⟨At, ct, p0, p1, p2, y1, hpb, hpF⟩ := (HPW.out).cells
  obtain ⟨hn, ad, rfl, t0, t1, t2, t3⟩ := PS.tok' hpF n tk ht
  have hq : ((n : Int) == (toks.length : Int)) = false := by simp; omega
  have hq1 : ((0 : Int) ≤ (n : Int)) = True := eq_true (by omega)
  have hq2 : ((n : Int) < (toks.length : Int)) = True := eq_true (by omega)
  have w1 : IntKind.i64.wrap ((n : Int) + 1) = (n : Int) + 1 := by rw [i64_w, M.wrap64_id (by unfold I64; omega)]
  have hlt : (ad.add (n * 4)).block < W.heap.size := World.block_lt_of_cell? _ _ t0
  obtain ⟨⟨c0, c1, c2, c3, c4, c5, c6, c7, c8, c9⟩, z0, z1, z2, z3, z4, z5, z6, z7, z8, z9⟩ := z10 BK0.out
  have hg1 : (g = W.heap.size) = False := eq_false (Nat.ne_of_lt HG.out)
  have hg2 : (W.heap.size = g) = False := eq_false (Nat.ne_of_gt HG.out)
  have hg3 : g < W.heap.size := HG.out
  have HN := Lib.hid hn
  clear hpb hpF hlen ht hn
  have hk1 : (tk.f0 == 1) = true := by rw [hk]; rfl
  clear hk
  go_enter Tryz.func132, Tryz.ntmps132
  go_wp2
  repeat (go_quiet (fail); try go_wp2)
  go_region_held3 (fun w' => w'.cell? ⟨g, 0, none⟩ = some (.slice (some ad) toks.length ct) ∧ w'.cell? ⟨g, 1, none⟩ = some (.int .i64 (n : Int)) ∧ w'.cell? (ad.add (n * 4)) = some (.int .i64 tk.f0) ∧ w'.cell? ⟨(ad.add (n * 4)).block, (ad.add (n * 4)).off + 1, none⟩ = some (.int .i64 tk.f1) ∧ w'.cell? ⟨(ad.add (n * 4)).block, (ad.add (n * 4)).off + 2, none⟩ = some (.string tk.f2) ∧ w'.cell? ⟨(ad.add (n * 4)).block, (ad.add (n * 4)).off + 3, none⟩ = some (.int .i64 tk.f3)) (go_keep) (fail)
  go_wp2
  refine bodyPost_ret (results_ct rfl _ _ W.heap.size 31 _ (0, 0) _ rfl (by with_reducible repeat (first | exact put10_blk BK0.out _ _ _ _ _ _ _ _ _ _ | refine put10_nd ?_ _ _ _ _ _ _ _ _ _ _ | exact BK0.out | exact blk_new _ _ | refine blk_alloc ?_ _ | refine blk_drewN ?_ _ | refine blk_drew ?_ | refine blk_set ?_ (Nat.ne_of_gt HG.out) _)) hu rfl (by kernel_rfl)) rfl ?_
  refine ⟨?_, ?_, .slice none 0 0, ?_, Kd.V_nil _ _ _ _ _⟩
  · show PS g toks en ((n : Int) + 1) _
    exact (Uq12 HP0.out)
  · exact (Uq13 HB0.out)
  · rfl
set_option maxHeartbeats 8000000 in
set_option maxRecDepth 100000 in
theorem part_other (toks : List Tok) (en i : Int) (n : Nat) (tk : Tok) (ht : toks[n]? = some tk) (hlen : toks.length ≤ 1000000) (e1 : tk.f0 ≠ 1) (e2 : tk.f0 ≠ 2) (e3 : tk.f0 ≠ 3) (e4 : tk.f0 ≠ 4) : Does 132 toks en i n (.bad (placeV toks en n) 13, n) := by
  intro g W hp
  have hu := Tryz.underlying31
  have HG := Lib.hid hp.lt
  have HP0 := Lib.hid (hp.alloc nd0)
  have HB0 := Lib.hid (Bu.refl g (W.alloc nd0))
  have BK0 := Lib.hid (blk_new W nd0)
  have HPW := Lib.hid hp
  clear hp
  obtain ⟨At, ct, p0, p1, p2, y1, hpb, hpF⟩ := (HPW.out).cells
  obtain ⟨hn, ad, rfl, t0, t1, t2, t3⟩ := PS.tok' hpF n tk ht
  have hq : ((n : Int) == (toks.length : Int)) = false := by simp; omega
  have hq1 : ((0 : Int) ≤ (n : Int)) = True := eq_true (by omega)
  have hq2 : ((n : Int) < (toks.length : Int)) = True := eq_true (by omega)
  have w1 : IntKind.i64.wrap ((n : Int) + 1) = (n : Int) + 1 := by rw [i64_w, M.wrap64_id (by unfold I64; omega)]
  have hlt : (ad.add (n * 4)).block < W.heap.size := World.block_lt_of_cell? _ _ t0
  obtain ⟨⟨c0, c1, c2, c3, c4, c5, c6, c7, c8, c9⟩, z0, z1, z2, z3, z4, z5, z6, z7, z8, z9⟩ := z10 BK0.out
  have hg1 : (g = W.heap.size) = False := eq_false (Nat.ne_of_lt HG.out)
  have hg2 : (W.heap.size = g) = False := eq_false (Nat.ne_of_gt HG.out)
  have hg3 : g < W.heap.size := HG.out
  have HN := Lib.hid hn
  clear hpb hpF hlen ht hn
  have HNL := Lib.hid (Nat.le_of_lt HN.out)
  have hk1 : (tk.f0 == 1) = false := beq_eq_false_iff_ne.2 e1
  have hk2 : (tk.f0 == 2) = false := beq_eq_false_iff_ne.2 e2
  have hk3 : (tk.f0 == 3) = false := beq_eq_false_iff_ne.2 e3
  have hk4 : (tk.f0 == 4) = false := beq_eq_false_iff_ne.2 e4
  clear e1 e2 e3 e4
  go_enter Tryz.func132, Tryz.ntmps132
  go_wp2
  repeat (go_quiet (fail); try go_wp2)
  go_region_held3 (fun w' => w'.cell? ⟨g, 0, none⟩ = some (.slice (some ad) toks.length ct) ∧ w'.cell? ⟨g, 1, none⟩ = some (.int .i64 (n : Int)) ∧ w'.cell? (ad.add (n * 4)) = some (.int .i64 tk.f0) ∧ w'.cell? ⟨(ad.add (n * 4)).block, (ad.add (n * 4)).off + 1, none⟩ = some (.int .i64 tk.f1) ∧ w'.cell? ⟨(ad.add (n * 4)).block, (ad.add (n * 4)).off + 2, none⟩ = some (.string tk.f2) ∧ w'.cell? ⟨(ad.add (n * 4)).block, (ad.add (n * 4)).off + 3, none⟩ = some (.int .i64 tk.f3)) (go_keep) (fail)
  go_wp2_with (first | (go_at_call 52; (with_reducible refine (fail_calls g toks en n HNL.out _ ?sp).mono ?_); (case sp => exact (Uq12 HP0.out)); rintro e w1 ⟨q, rfl, he, hq, hbl⟩; have HE := Lib.hid he; have HQ := Lib.hid (lo (g := g) (o := nd0) (W := W) (Uq14 HB0.out) hq); have hb := Bu.of_below (g := g) hbl; have hp := PS.below (g := g) (toks := toks) (en := en) (at_ := (n : Int)) (Uq12 HP0.out) hbl; clear he hq hbl; have HP1 := Lib.hid hp; have HB1 := Lib.hid (Bu.trans (g := g) (a := W.alloc nd0) (Uq14 HB0.out) hb); have BK1 := Lib.hid (hb.blk (k := W.heap.size) (o := nd0) (Uq15 BK0.out) (Nat.ne_of_gt HG.out)); clear hp hb; (try clear c0 c1 c2 c3 c4 c5 c6 c7 c8 c9 z0 z1 z2 z3 z4 z5 z6 z7 z8 z9 hsz); obtain ⟨⟨c0, c1, c2, c3, c4, c5, c6, c7, c8, c9⟩, z0, z1, z2, z3, z4, z5, z6, z7, z8, z9⟩ := z10 BK1.out; have hsz : W.heap.size < w1.heap.size := blk_lt BK1.out; have HZ1 := Lib.hid hsz))
  refine bodyPost_ret (results_ct rfl _ _ W.heap.size 31 _ (0, 0) _ rfl (Uq16 BK1.out) hu rfl (by kernel_rfl)) rfl ?_
  refine ⟨?_, ?_, q, ?_, ?_, Nat.le_of_lt HQ.out⟩
  · exact (Uq12 HP1.out)
  · exact (Uq13 HB1.out)
  · rfl
  · exact (Uq7 HE.out)
set_option maxHeartbeats 8000000 in
set_option maxRecDepth 100000 in
theorem part_sign (toks : List Tok) (en i : Int) (n : Nat) (tk : Tok) (ht : toks[n]? = some tk) (hlen : toks.length ≤ 1000000) (hk : tk.f0 = 4) (s : ByteArray) (n1 : Nat) (hs : signV toks n [⟨#[40]⟩] = (s, false, n1)) (hn1 : n1 ≤ toks.length) : Does 132 toks en i n (.bad (placeV toks en n1) 13, n1) := by
  intro g W hp
  have hu := Tryz.underlying31
  have HG := Lib.hid hp.lt
  have HP0 := Lib.hid (hp.alloc nd0)
  have HB0 := Lib.hid (Bu.refl g (W.alloc nd0))
  have BK0 := Lib.hid (blk_new W nd0)
  have HPW := Lib.hid hp
  clear hp
  have HLEN := Lib.hid hlen
  obtain ⟨At, ct, p0, p1, p2, y1, hpb, hpF⟩ := (HPW.out).cells
  obtain ⟨hn, ad, rfl, t0, t1, t2, t3⟩ := PS.tok' hpF n tk ht
  have hq : ((n : Int) == (toks.length : Int)) = false := by simp; omega
  have hq1 : ((0 : Int) ≤ (n : Int)) = True := eq_true (by omega)
  have hq2 : ((n : Int) < (toks.length : Int)) = True := eq_true (by omega)
  have w1 : IntKind.i64.wrap ((n : Int) + 1) = (n : Int) + 1 := by rw [i64_w, M.wrap64_id (by unfold I64; omega)]
  have hlt : (ad.add (n * 4)).block < W.heap.size := World.block_lt_of_cell? _ _ t0
  obtain ⟨⟨c0, c1, c2, c3, c4, c5, c6, c7, c8, c9⟩, z0, z1, z2, z3, z4, z5, z6, z7, z8, z9⟩ := z10 BK0.out
  have hg1 : (g = W.heap.size) = False := eq_false (Nat.ne_of_lt HG.out)
  have hg2 : (W.heap.size = g) = False := eq_false (Nat.ne_of_gt HG.out)
  have hg3 : g < W.heap.size := HG.out
  have HN := Lib.hid hn
  clear hpb hpF hlen ht hn
  have HNL := Lib.hid (Nat.le_of_lt HN.out)
  have hk1 : (tk.f0 == 1) = false := by rw [hk]; rfl
  have hk2 : (tk.f0 == 2) = false := by rw [hk]; rfl
  have hk3 : (tk.f0 == 3) = false := by rw [hk]; rfl
  have hk4 : (tk.f0 == 4) = true := by rw [hk]; rfl
  clear hk
  have HS := Lib.hid hs
  have HM := Lib.hid hn1
  clear hs hn1
  go_enter Tryz.func132, Tryz.ntmps132
  go_wp2
  repeat (go_quiet (fail); try go_wp2)
  go_region_held3 (fun w' => w'.cell? ⟨g, 0, none⟩ = some (.slice (some ad) toks.length ct) ∧ w'.cell? ⟨g, 1, none⟩ = some (.int .i64 (n : Int)) ∧ w'.cell? (ad.add (n * 4)) = some (.int .i64 tk.f0) ∧ w'.cell? ⟨(ad.add (n * 4)).block, (ad.add (n * 4)).off + 1, none⟩ = some (.int .i64 tk.f1) ∧ w'.cell? ⟨(ad.add (n * 4)).block, (ad.add (n * 4)).off + 2, none⟩ = some (.string tk.f2) ∧ w'.cell? ⟨(ad.add (n * 4)).block, (ad.add (n * 4)).off + 3, none⟩ = some (.int .i64 tk.f3)) (go_keep) (fail)
  go_wp2_with (first | (go_at_call 75; (with_reducible refine (sign_of g toks en _ HNL.out _ _ _ _ _ _ _ HS.out ?s1 HLEN.out _ ?sp ?s2 ?s3 ?s4).mono ?_); (case sp => exact (Uq12 HP0.out)); (case s1 => decide); (case s2 => exact strC_new (by simp) rfl (by decide)); (case s3 => decide); (case s4 => rfl); rintro e w1 ⟨rfl, hp, hb⟩; have HP1 := Lib.hid hp; have HB1 := Lib.hid (Bu.trans (g := g) (a := W.alloc nd0) (Uq14 HB0.out) hb); have BK1 := Lib.hid (hb.blk (k := W.heap.size) (o := nd0) (Uq15 BK0.out) (Nat.ne_of_gt HG.out)); clear hp hb; (try clear c0 c1 c2 c3 c4 c5 c6 c7 c8 c9 z0 z1 z2 z3 z4 z5 z6 z7 z8 z9 hsz); obtain ⟨⟨c0, c1, c2, c3, c4, c5, c6, c7, c8, c9⟩, z0, z1, z2, z3, z4, z5, z6, z7, z8, z9⟩ := z10 BK1.out; have hsz : W.heap.size < w1.heap.size := blk_lt BK1.out; have HZ1 := Lib.hid hsz) | (go_at_call 52; (with_reducible refine (fail_calls g toks en n1 HM.out _ ?sp).mono ?_); (case sp => exact (Uq12 HP1.out)); rintro e w2 ⟨q, rfl, he, hq, hbl⟩; have HE := Lib.hid he; have HQ := Lib.hid (lo (g := g) (o := nd0) (W := W) (Uq14 HB1.out) hq); have hb := Bu.of_below (g := g) hbl; have hp := PS.below (g := g) (toks := toks) (en := en) (at_ := (n1 : Int)) (Uq12 HP1.out) hbl; clear he hq hbl; have HP2 := Lib.hid hp; have HB2 := Lib.hid (Bu.trans (g := g) (a := W.alloc nd0) (Uq14 HB1.out) hb); have BK2 := Lib.hid (hb.blk (k := W.heap.size) (o := nd0) (Uq15 BK1.out) (Nat.ne_of_gt HG.out)); clear hp hb; (try clear c0 c1 c2 c3 c4 c5 c6 c7 c8 c9 z0 z1 z2 z3 z4 z5 z6 z7 z8 z9 hsz); obtain ⟨⟨c0, c1, c2, c3, c4, c5, c6, c7, c8, c9⟩, z0, z1, z2, z3, z4, z5, z6, z7, z8, z9⟩ := z10 BK2.out; have hsz : W.heap.size < w2.heap.size := blk_lt BK2.out; have HZ2 := Lib.hid hsz))
  refine bodyPost_ret (results_ct rfl _ _ W.heap.size 31 _ (0, 0) _ rfl (Uq17 BK2.out) hu rfl (by kernel_rfl)) rfl ?_
  refine ⟨?_, ?_, q, ?_, ?_, Nat.le_of_lt HQ.out⟩
  · exact (Uq12 HP2.out)
  · exact (Uq13 HB2.out)
  · rfl
  · exact (Uq7 HE.out)
set_option maxHeartbeats 8000000 in
set_option maxRecDepth 100000 in
theorem part_wbad (toks : List Tok) (en i : Int) (n : Nat) (tk : Tok) (ht : toks[n]? = some tk) (hlen : toks.length ≤ 1000000) (hk : tk.f0 = 4) (s : ByteArray) (n1 : Nat) (hs : signV toks n [⟨#[40]⟩] = (s, true, n1)) (n2 : Nat) (p c : Int) (hf : Does 135 toks en i n1 (.bad p c, n2)) : Does 132 toks en i n (.bad p c, n2) := by
  intro g W hp
  have hu := Tryz.underlying31
  have HG := Lib.hid hp.lt
  have HP0 := Lib.hid (hp.alloc nd0)
  have HB0 := Lib.hid (Bu.refl g (W.alloc nd0))
  have BK0 := Lib.hid (blk_new W nd0)
  have HPW := Lib.hid hp
  clear hp
  have HLEN := Lib.hid hlen
  obtain ⟨At, ct, p0, p1, p2, y1, hpb, hpF⟩ := (HPW.out).cells
  obtain ⟨hn, ad, rfl, t0, t1, t2, t3⟩ := PS.tok' hpF n tk ht
  have hq : ((n : Int) == (toks.length : Int)) = false := by simp; omega
  have hq1 : ((0 : Int) ≤ (n : Int)) = True := eq_true (by omega)
  have hq2 : ((n : Int) < (toks.length : Int)) = True := eq_true (by omega)
  have w1 : IntKind.i64.wrap ((n : Int) + 1) = (n : Int) + 1 := by rw [i64_w, M.wrap64_id (by unfold I64; omega)]
  have hlt : (ad.add (n * 4)).block < W.heap.size := World.block_lt_of_cell? _ _ t0
  obtain ⟨⟨c0, c1, c2, c3, c4, c5, c6, c7, c8, c9⟩, z0, z1, z2, z3, z4, z5, z6, z7, z8, z9⟩ := z10 BK0.out
  have hg1 : (g = W.heap.size) = False := eq_false (Nat.ne_of_lt HG.out)
  have hg2 : (W.heap.size = g) = False := eq_false (Nat.ne_of_gt HG.out)
  have hg3 : g < W.heap.size := HG.out
  have HN := Lib.hid hn
  clear hpb hpF hlen ht hn
  have HNL := Lib.hid (Nat.le_of_lt HN.out)
  have hk1 : (tk.f0 == 1) = false := by rw [hk]; rfl
  have hk2 : (tk.f0 == 2) = false := by rw [hk]; rfl
  have hk3 : (tk.f0 == 3) = false := by rw [hk]; rfl
  have hk4 : (tk.f0 == 4) = true := by rw [hk]; rfl
  clear hk
  have HS := Lib.hid hs
  have HF := Lib.hid hf
  clear hs hf
  go_enter Tryz.func132, Tryz.ntmps132
  go_wp2
  repeat (go_quiet (fail); try go_wp2)
  go_region_held3 (fun w' => w'.cell? ⟨g, 0, none⟩ = some (.slice (some ad) toks.length ct) ∧ w'.cell? ⟨g, 1, none⟩ = some (.int .i64 (n : Int)) ∧ w'.cell? (ad.add (n * 4)) = some (.int .i64 tk.f0) ∧ w'.cell? ⟨(ad.add (n * 4)).block, (ad.add (n * 4)).off + 1, none⟩ = some (.int .i64 tk.f1) ∧ w'.cell? ⟨(ad.add (n * 4)).block, (ad.add (n * 4)).off + 2, none⟩ = some (.string tk.f2) ∧ w'.cell? ⟨(ad.add (n * 4)).block, (ad.add (n * 4)).off + 3, none⟩ = some (.int .i64 tk.f3)) (go_keep) (fail)
  go_wp2_with (first | (go_at_call 75; (with_reducible refine (sign_of g toks en _ HNL.out _ _ _ _ _ _ _ HS.out ?s1 HLEN.out _ ?sp ?s2 ?s3 ?s4).mono ?_); (case sp => exact (Uq12 HP0.out)); (case s1 => decide); (case s2 => exact strC_new (by simp) rfl (by decide)); (case s3 => decide); (case s4 => rfl); rintro e w1 ⟨rfl, hp, hb⟩; have HP1 := Lib.hid hp; have HB1 := Lib.hid (Bu.trans (g := g) (a := W.alloc nd0) (Uq14 HB0.out) hb); have BK1 := Lib.hid (hb.blk (k := W.heap.size) (o := nd0) (Uq15 BK0.out) (Nat.ne_of_gt HG.out)); clear hp hb; (try clear c0 c1 c2 c3 c4 c5 c6 c7 c8 c9 z0 z1 z2 z3 z4 z5 z6 z7 z8 z9 hsz); obtain ⟨⟨c0, c1, c2, c3, c4, c5, c6, c7, c8, c9⟩, z0, z1, z2, z3, z4, z5, z6, z7, z8, z9⟩ := z10 BK1.out; have hsz : W.heap.size < w1.heap.size := blk_lt BK1.out; have HZ1 := Lib.hid hsz) | (go_at_call 135; (with_reducible refine (HF.out.bad g _ ?sp).mono ?_); (case sp => exact (Uq12 HP1.out)); rintro e w2 ⟨hp, hb, q, rfl, he, hq⟩; have HE := Lib.hid he; have HQ := Lib.hid (lo (g := g) (o := nd0) (W := W) (Uq14 HB1.out) hq); clear he hq; have HP2 := Lib.hid hp; have HB2 := Lib.hid (Bu.trans (g := g) (a := W.alloc nd0) (Uq14 HB1.out) hb); have BK2 := Lib.hid (hb.blk (k := W.heap.size) (o := nd0) (Uq15 BK1.out) (Nat.ne_of_gt HG.out)); clear hp hb; (try clear c0 c1 c2 c3 c4 c5 c6 c7 c8 c9 z0 z1 z2 z3 z4 z5 z6 z7 z8 z9 hsz); obtain ⟨⟨c0, c1, c2, c3, c4, c5, c6, c7, c8, c9⟩, z0, z1, z2, z3, z4, z5, z6, z7, z8, z9⟩ := z10 BK2.out; have hsz : W.heap.size < w2.heap.size := blk_lt BK2.out; have HZ2 := Lib.hid hsz))
  refine bodyPost_ret (results_ct rfl _ _ W.heap.size 31 _ (0, 0) _ rfl (Uq17 BK2.out) hu rfl (by kernel_rfl)) rfl ?_
  refine ⟨?_, ?_, q, ?_, ?_, Nat.le_of_lt HQ.out⟩
  · exact (Uq12 HP2.out)
  · exact (Uq13 HB2.out)
  · rfl
  · exact (Uq7 HE.out)
set_option maxHeartbeats 8000000 in
set_option maxRecDepth 100000 in
theorem part_wok (toks : List Tok) (en i : Int) (n : Nat) (tk : Tok) (ht : toks[n]? = some tk) (hlen : toks.length ≤ 1000000) (hk : tk.f0 = 4) (s : ByteArray) (n1 : Nat) (hs : signV toks n [⟨#[40]⟩] = (s, true, n1)) (n2 : Nat) (a : TN) (hf : Does 135 toks en i n1 (.ok a, n2)) : Does 132 toks en i n (.ok a, n2) := by
  intro g W hp
  have hu := Tryz.underlying31
  have HG := Lib.hid hp.lt
  have HP0 := Lib.hid (hp.alloc nd0)
  have HB0 := Lib.hid (Bu.refl g (W.alloc nd0))
  have BK0 := Lib.hid (blk_new W nd0)
  have HPW := Lib.hid hp
  clear hp
  have HLEN := Lib.hid hlen
  obtain ⟨At, ct, p0, p1, p2, y1, hpb, hpF⟩ := (HPW.out).cells
  obtain ⟨hn, ad, rfl, t0, t1, t2, t3⟩ := PS.tok' hpF n tk ht
  have hq : ((n : Int) == (toks.length : Int)) = false := by simp; omega
  have hq1 : ((0 : Int) ≤ (n : Int)) = True := eq_true (by omega)
  have hq2 : ((n : Int) < (toks.length : Int)) = True := eq_true (by omega)
  have w1 : IntKind.i64.wrap ((n : Int) + 1) = (n : Int) + 1 := by rw [i64_w, M.wrap64_id (by unfold I64; omega)]
  have hlt : (ad.add (n * 4)).block < W.heap.size := World.block_lt_of_cell? _ _ t0
  obtain ⟨⟨c0, c1, c2, c3, c4, c5, c6, c7, c8, c9⟩, z0, z1, z2, z3, z4, z5, z6, z7, z8, z9⟩ := z10 BK0.out
  have hg1 : (g = W.heap.size) = False := eq_false (Nat.ne_of_lt HG.out)
  have hg2 : (W.heap.size = g) = False := eq_false (Nat.ne_of_gt HG.out)
  have hg3 : g < W.heap.size := HG.out
  have HN := Lib.hid hn
  clear hpb hpF hlen ht hn
  have HNL := Lib.hid (Nat.le_of_lt HN.out)
  have hk1 : (tk.f0 == 1) = false := by rw [hk]; rfl
  have hk2 : (tk.f0 == 2) = false := by rw [hk]; rfl
  have hk3 : (tk.f0 == 3) = false := by rw [hk]; rfl
  have hk4 : (tk.f0 == 4) = true := by rw [hk]; rfl
  clear hk
  have HS := Lib.hid hs
  have HF := Lib.hid hf
  clear hs hf
  go_enter Tryz.func132, Tryz.ntmps132
  go_wp2
  repeat (go_quiet (fail); try go_wp2)
  go_region_held3 (fun w' => w'.cell? ⟨g, 0, none⟩ = some (.slice (some ad) toks.length ct) ∧ w'.cell? ⟨g, 1, none⟩ = some (.int .i64 (n : Int)) ∧ w'.cell? (ad.add (n * 4)) = some (.int .i64 tk.f0) ∧ w'.cell? ⟨(ad.add (n * 4)).block, (ad.add (n * 4)).off + 1, none⟩ = some (.int .i64 tk.f1) ∧ w'.cell? ⟨(ad.add (n * 4)).block, (ad.add (n * 4)).off + 2, none⟩ = some (.string tk.f2) ∧ w'.cell? ⟨(ad.add (n * 4)).block, (ad.add (n * 4)).off + 3, none⟩ = some (.int .i64 tk.f3)) (go_keep) (fail)
  go_wp2_with (first | (go_at_call 75; (with_reducible refine (sign_of g toks en _ HNL.out _ _ _ _ _ _ _ HS.out ?s1 HLEN.out _ ?sp ?s2 ?s3 ?s4).mono ?_); (case sp => exact (Uq12 HP0.out)); (case s1 => decide); (case s2 => exact strC_new (by simp) rfl (by decide)); (case s3 => decide); (case s4 => rfl); rintro e w1 ⟨rfl, hp, hb⟩; have HP1 := Lib.hid hp; have HB1 := Lib.hid (Bu.trans (g := g) (a := W.alloc nd0) (Uq14 HB0.out) hb); have BK1 := Lib.hid (hb.blk (k := W.heap.size) (o := nd0) (Uq15 BK0.out) (Nat.ne_of_gt HG.out)); clear hp hb; (try clear c0 c1 c2 c3 c4 c5 c6 c7 c8 c9 z0 z1 z2 z3 z4 z5 z6 z7 z8 z9 hsz); obtain ⟨⟨c0, c1, c2, c3, c4, c5, c6, c7, c8, c9⟩, z0, z1, z2, z3, z4, z5, z6, z7, z8, z9⟩ := z10 BK1.out; have hsz : W.heap.size < w1.heap.size := blk_lt BK1.out; have HZ1 := Lib.hid hsz) | (go_at_call 135; (fail_if_success have := HP2); (with_reducible refine (HF.out.ok g _ ?sp).mono ?_); (case sp => exact (Uq12 HP1.out)); rintro e w2 ⟨hp, hb, v2, rfl, hv⟩; obtain ⟨AA2, kk2, rfl⟩ := Kd.V_slice hv; have HV2 := Lib.hid (Kd.V_mono hv (fun k hk => lo (g := g) (o := nd0) (W := W) (Uq14 HB1.out) hk)); clear hv; have HP2 := Lib.hid hp; have HB2 := Lib.hid (Bu.trans (g := g) (a := W.alloc nd0) (Uq14 HB1.out) hb); have BK2 := Lib.hid (hb.blk (k := W.heap.size) (o := nd0) (Uq15 BK1.out) (Nat.ne_of_gt HG.out)); clear hp hb; (try clear c0 c1 c2 c3 c4 c5 c6 c7 c8 c9 z0 z1 z2 z3 z4 z5 z6 z7 z8 z9 hsz); obtain ⟨⟨c0, c1, c2, c3, c4, c5, c6, c7, c8, c9⟩, z0, z1, z2, z3, z4, z5, z6, z7, z8, z9⟩ := z10 BK2.out; have hsz : W.heap.size < w2.heap.size := blk_lt BK2.out; have HZ2 := Lib.hid hsz))
  refine bodyPost_ret (results_ct rfl _ _ W.heap.size 31 _ (0, 0) _ rfl (Uq17 BK2.out) hu rfl (by kernel_rfl)) rfl ?_
  refine ⟨?_, ?_, (.slice AA2 a.f4.length kk2), ?_, Kd.V_mono ?_ (fun k hk => Nat.le_of_lt hk)⟩
  · exact (Uq12 HP2.out)
  · exact (Uq13 HB2.out)
  · rfl
  · exact (Uq9 HV2.out)
def DoesS (m : Nat) (toks : List Tok) (en : Int) (i : Int) (s : ByteArray) (n : Nat) (r : PR × Nat) : Prop :=
  ∀ (g : Nat) (W : World), PS g toks en (n : Int) W → Calls Tryz.prog m #[ptr g, .int .i64 i, .string s] W fun e W' => PS g toks en (r.2 : Int) W' ∧ Bu g W W' ∧ Ret W.heap.size r.1 W' e
theorem DoesS.ok {m : Nat} {toks : List Tok} {en i : Int} {s : ByteArray} {n n' : Nat} {t : TN} (h : DoesS m toks en i s n (.ok t, n')) (g : Nat) (W : World) (hp : PS g toks en (n : Int) W) :
    Calls Tryz.prog m #[ptr g, .int .i64 i, .string s] W fun e W' => PS g toks en (n' : Int) W' ∧ Bu g W W' ∧ ∃ v9, e = .returned (.tuple #[ndV t v9, .nilIface]) ∧ vN (fun k => W.heap.size ≤ k) W' v9 t.f4 := h g W hp
theorem DoesS.bad {m : Nat} {toks : List Tok} {en i : Int} {s : ByteArray} {n n' : Nat} {p c : Int} (h : DoesS m toks en i s n (.bad p c, n')) (g : Nat) (W : World) (hp : PS g toks en (n : Int) W) :
    Calls Tryz.prog m #[ptr g, .int .i64 i, .string s] W fun e W' => PS g toks en (n' : Int) W' ∧ Bu g W W' ∧ ∃ q, e = .returned (.tuple #[ndV z31 (.slice none 0 0), .iface 78 (ptr q)]) ∧ W'.heap[q]? = some (.cells #[.int .i64 p, .int .i64 c] 82 (0, 0)) ∧ W.heap.size ≤ q := h g W hp
set_option maxHeartbeats 8000000 in
set_option maxRecDepth 100000 in
theorem part_nbad (toks : List Tok) (en i : Int) (n : Nat) (tk : Tok) (ht : toks[n]? = some tk) (hlen : toks.length ≤ 1000000) (hk : tk.f0 = 3) (n2 : Nat) (p c : Int) (hf : DoesS 134 toks en i tk.f2 n (.bad p c, n2)) : Does 132 toks en i n (.bad p c, n2) := by
  intro g W hp
  have hu := Tryz.underlying31
  have HG := Lib.hid hp.lt
  have HP0 := Lib.hid (hp.alloc nd0)
  have HB0 := Lib.hid (Bu.refl g (W.alloc nd0))
  have BK0 := Lib.hid (blk_new W nd0)
  have HPW := Lib.hid hp
  clear hp
  obtain ⟨At, ct, p0, p1, p2, y1, hpb, hpF⟩ := (HPW.out).cells
  obtain ⟨hn, ad, rfl, t0, t1, t2, t3⟩ := PS.tok' hpF n tk ht
  have hq : ((n : Int) == (toks.length : Int)) = false := by simp; omega
  have hq1 : ((0 : Int) ≤ (n : Int)) = True := eq_true (by omega)
  have hq2 : ((n : Int) < (toks.length : Int)) = True := eq_true (by omega)
  have w1 : IntKind.i64.wrap ((n : Int) + 1) = (n : Int) + 1 := by rw [i64_w, M.wrap64_id (by unfold I64; omega)]
  have hlt : (ad.add (n * 4)).block < W.heap.size := World.block_lt_of_cell? _ _ t0
  obtain ⟨⟨c0, c1, c2, c3, c4, c5, c6, c7, c8, c9⟩, z0, z1, z2, z3, z4, z5, z6, z7, z8, z9⟩ := z10 BK0.out
  have hg1 : (g = W.heap.size) = False := eq_false (Nat.ne_of_lt HG.out)
  have hg2 : (W.heap.size = g) = False := eq_false (Nat.ne_of_gt HG.out)
  have hg3 : g < W.heap.size := HG.out
  have HN := Lib.hid hn
  clear hpb hpF hlen ht hn
  have HNL := Lib.hid (Nat.le_of_lt HN.out)
  have hk1 : (tk.f0 == 1) = false := by rw [hk]; rfl
  have hk2 : (tk.f0 == 2) = false := by rw [hk]; rfl
  have hk3 : (tk.f0 == 3) = true := by rw [hk]; rfl
  clear hk
  have HF := Lib.hid hf
  clear hf
  go_enter Tryz.func132, Tryz.ntmps132
  go_wp2
  repeat (go_quiet (fail); try go_wp2)
  go_region_held3 (fun w' => w'.cell? ⟨g, 0, none⟩ = some (.slice (some ad) toks.length ct) ∧ w'.cell? ⟨g, 1, none⟩ = some (.int .i64 (n : Int)) ∧ w'.cell? (ad.add (n * 4)) = some (.int .i64 tk.f0) ∧ w'.cell? ⟨(ad.add (n * 4)).block, (ad.add (n * 4)).off + 1, none⟩ = some (.int .i64 tk.f1) ∧ w'.cell? ⟨(ad.add (n * 4)).block, (ad.add (n * 4)).off + 2, none⟩ = some (.string tk.f2) ∧ w'.cell? ⟨(ad.add (n * 4)).block, (ad.add (n * 4)).off + 3, none⟩ = some (.int .i64 tk.f3)) (go_keep) (fail)
  go_wp2_with (first | (go_at_call 134; (with_reducible refine (HF.out.bad g _ ?sp).mono ?_); (case sp => exact (Uq12 HP0.out)); rintro e w1 ⟨hp, hb, q, rfl, he, hq⟩; have HE := Lib.hid he; have HQ := Lib.hid (lo (g := g) (o := nd0) (W := W) (Uq14 HB0.out) hq); clear he hq; have HP1 := Lib.hid hp; have HB1 := Lib.hid (Bu.trans (g := g) (a := W.alloc nd0) (Uq14 HB0.out) hb); have BK1 := Lib.hid (hb.blk (k := W.heap.size) (o := nd0) (Uq15 BK0.out) (Nat.ne_of_gt HG.out)); clear hp hb; (try clear c0 c1 c2 c3 c4 c5 c6 c7 c8 c9 z0 z1 z2 z3 z4 z5 z6 z7 z8 z9 hsz); obtain ⟨⟨c0, c1, c2, c3, c4, c5, c6, c7, c8, c9⟩, z0, z1, z2, z3, z4, z5, z6, z7, z8, z9⟩ := z10 BK1.out; have hsz : W.heap.size < w1.heap.size := blk_lt BK1.out; have HZ1 := Lib.hid hsz))
  refine bodyPost_ret (results_ct rfl _ _ W.heap.size 31 _ (0, 0) _ rfl (Uq16 BK1.out) hu rfl (by kernel_rfl)) rfl ?_
  refine ⟨?_, ?_, q, ?_, ?_, Nat.le_of_lt HQ.out⟩
  · exact (Uq12 HP1.out)
  · exact (Uq13 HB1.out)
  · rfl
  · exact (Uq7 HE.out)
set_option maxHeartbeats 8000000 in
set_option maxRecDepth 100000 in
theorem part_nok (toks : List Tok) (en i : Int) (n : Nat) (tk : Tok) (ht : toks[n]? = some tk) (hlen : toks.length ≤ 1000000) (hk : tk.f0 = 3) (n2 : Nat) (a : TN) (hf : DoesS 134 toks en i tk.f2 n (.ok a, n2)) : Does 132 toks en i n (.ok a, n2) := by
  intro g W hp
  have hu := Tryz.underlying31
  have HG := Lib.hid hp.lt
  have HP0 := Lib.hid (hp.alloc nd0)
  have HB0 := Lib.hid (Bu.refl g (W.alloc nd0))
  have BK0 := Lib.hid (blk_new W nd0)
  have HPW := Lib.hid hp
  clear hp
  obtain ⟨At, ct, p0, p1, p2, y1, hpb, hpF⟩ := (HPW.out).cells
  obtain ⟨hn, ad, rfl, t0, t1, t2, t3⟩ := PS.tok' hpF n tk ht
  have hq : ((n : Int) == (toks.length : Int)) = false := by simp; omega
  have hq1 : ((0 : Int) ≤ (n : Int)) = True := eq_true (by omega)
  have hq2 : ((n : Int) < (toks.length : Int)) = True := eq_true (by omega)
  have w1 : IntKind.i64.wrap ((n : Int) + 1) = (n : Int) + 1 := by rw [i64_w, M.wrap64_id (by unfold I64; omega)]
  have hlt : (ad.add (n * 4)).block < W.heap.size := World.block_lt_of_cell? _ _ t0
  obtain ⟨⟨c0, c1, c2, c3, c4, c5, c6, c7, c8, c9⟩, z0, z1, z2, z3, z4, z5, z6, z7, z8, z9⟩ := z10 BK0.out
  have hg1 : (g = W.heap.size) = False := eq_false (Nat.ne_of_lt HG.out)
  have hg2 : (W.heap.size = g) = False := eq_false (Nat.ne_of_gt HG.out)
  have hg3 : g < W.heap.size := HG.out
  have HN := Lib.hid hn
  clear hpb hpF hlen ht hn
  have HNL := Lib.hid (Nat.le_of_lt HN.out)
  have hk1 : (tk.f0 == 1) = false := by rw [hk]; rfl
  have hk2 : (tk.f0 == 2) = false := by rw [hk]; rfl
  have hk3 : (tk.f0 == 3) = true := by rw [hk]; rfl
  clear hk
  have HF := Lib.hid hf
  clear hf
  go_enter Tryz.func132, Tryz.ntmps132
  go_wp2
  repeat (go_quiet (fail); try go_wp2)
  go_region_held3 (fun w' => w'.cell? ⟨g, 0, none⟩ = some (.slice (some ad) toks.length ct) ∧ w'.cell? ⟨g, 1, none⟩ = some (.int .i64 (n : Int)) ∧ w'.cell? (ad.add (n * 4)) = some (.int .i64 tk.f0) ∧ w'.cell? ⟨(ad.add (n * 4)).block, (ad.add (n * 4)).off + 1, none⟩ = some (.int .i64 tk.f1) ∧ w'.cell? ⟨(ad.add (n * 4)).block, (ad.add (n * 4)).off + 2, none⟩ = some (.string tk.f2) ∧ w'.cell? ⟨(ad.add (n * 4)).block, (ad.add (n * 4)).off + 3, none⟩ = some (.int .i64 tk.f3)) (go_keep) (fail)
  go_wp2_with (first | (go_at_call 134; (fail_if_success have := HP1); (with_reducible refine (HF.out.ok g _ ?sp).mono ?_); (case sp => exact (Uq12 HP0.out)); rintro e w1 ⟨hp, hb, v1, rfl, hv⟩; obtain ⟨AA1, kk1, rfl⟩ := Kd.V_slice hv; have HV1 := Lib.hid (Kd.V_mono hv (fun k hk => lo (g := g) (o := nd0) (W := W) (Uq14 HB0.out) hk)); clear hv; have HP1 := Lib.hid hp; have HB1 := Lib.hid (Bu.trans (g := g) (a := W.alloc nd0) (Uq14 HB0.out) hb); have BK1 := Lib.hid (hb.blk (k := W.heap.size) (o := nd0) (Uq15 BK0.out) (Nat.ne_of_gt HG.out)); clear hp hb; (try clear c0 c1 c2 c3 c4 c5 c6 c7 c8 c9 z0 z1 z2 z3 z4 z5 z6 z7 z8 z9 hsz); obtain ⟨⟨c0, c1, c2, c3, c4, c5, c6, c7, c8, c9⟩, z0, z1, z2, z3, z4, z5, z6, z7, z8, z9⟩ := z10 BK1.out; have hsz : W.heap.size < w1.heap.size := blk_lt BK1.out; have HZ1 := Lib.hid hsz))
  refine bodyPost_ret (results_ct rfl _ _ W.heap.size 31 _ (0, 0) _ rfl (Uq16 BK1.out) hu rfl (by kernel_rfl)) rfl ?_
  refine ⟨?_, ?_, (.slice AA1 a.f4.length kk1), ?_, Kd.V_mono ?_ (fun k hk => Nat.le_of_lt hk)⟩
  · exact (Uq12 HP1.out)
  · exact (Uq13 HB1.out)
  · rfl
  · exact (Uq9 HV1.out)
set_option maxHeartbeats 8000000 in
set_option maxRecDepth 100000 in
theorem part_long (toks : List Tok) (en i : Int) (n : Nat) (tk : Tok) (ht : toks[n]? = some tk) (hlen : toks.length ≤ 1000000) (hk : tk.f0 = 2) (ho : value_Of.f tk.f2 = some (4, 7, ⟨#[]⟩)) : Does 132 toks en i n (.bad (placeV toks en n) 13, n) := by
  intro g W hp
  have hu := Tryz.underlying31
  have HG := Lib.hid hp.lt
  have HP0 := Lib.hid (hp.alloc nd0)
  have HB0 := Lib.hid (Bu.refl g (W.alloc nd0))
  have BK0 := Lib.hid (blk_new W nd0)
  have HPW := Lib.hid hp
  clear hp
  obtain ⟨At, ct, p0, p1, p2, y1, hpb, hpF⟩ := (HPW.out).cells
  obtain ⟨hn, ad, rfl, t0, t1, t2, t3⟩ := PS.tok' hpF n tk ht
  have hq : ((n : Int) == (toks.length : Int)) = false := by simp; omega
  have hq1 : ((0 : Int) ≤ (n : Int)) = True := eq_true (by omega)
  have hq2 : ((n : Int) < (toks.length : Int)) = True := eq_true (by omega)
  have w1 : IntKind.i64.wrap ((n : Int) + 1) = (n : Int) + 1 := by rw [i64_w, M.wrap64_id (by unfold I64; omega)]
  have hlt : (ad.add (n * 4)).block < W.heap.size := World.block_lt_of_cell? _ _ t0
  obtain ⟨⟨c0, c1, c2, c3, c4, c5, c6, c7, c8, c9⟩, z0, z1, z2, z3, z4, z5, z6, z7, z8, z9⟩ := z10 BK0.out
  have hg1 : (g = W.heap.size) = False := eq_false (Nat.ne_of_lt HG.out)
  have hg2 : (W.heap.size = g) = False := eq_false (Nat.ne_of_gt HG.out)
  have hg3 : g < W.heap.size := HG.out
  have HN := Lib.hid hn
  clear hpb hpF hlen ht hn
  have HNL := Lib.hid (Nat.le_of_lt HN.out)
  have hk1 : (tk.f0 == 1) = false := by rw [hk]; rfl
  have hk2 : (tk.f0 == 2) = true := by rw [hk]; rfl
  clear hk
  have HO := Lib.hid ho
  clear ho
  go_enter Tryz.func132, Tryz.ntmps132
  go_wp2
  repeat (go_quiet (fail); try go_wp2)
  go_region_held3 (fun w' => w'.cell? ⟨g, 0, none⟩ = some (.slice (some ad) toks.length ct) ∧ w'.cell? ⟨g, 1, none⟩ = some (.int .i64 (n : Int)) ∧ w'.cell? (ad.add (n * 4)) = some (.int .i64 tk.f0) ∧ w'.cell? ⟨(ad.add (n * 4)).block, (ad.add (n * 4)).off + 1, none⟩ = some (.int .i64 tk.f1) ∧ w'.cell? ⟨(ad.add (n * 4)).block, (ad.add (n * 4)).off + 2, none⟩ = some (.string tk.f2) ∧ w'.cell? ⟨(ad.add (n * 4)).block, (ad.add (n * 4)).off + 3, none⟩ = some (.int .i64 tk.f3)) (go_keep) (fail)
  go_wp2_with (first | (go_at_call 40; (with_reducible refine (value_Of.calls tk.f2 _ _ _ _ HO.out).mono ?_); rintro e w1 ⟨rfl, hbl⟩; have hb := Bu.of_below (g := g) hbl; have hp := PS.below (g := g) (toks := toks) (en := en) (at_ := (n : Int)) (Uq12 HP0.out) hbl; clear hbl; have HP1 := Lib.hid hp; have HB1 := Lib.hid (Bu.trans (g := g) (a := W.alloc nd0) (Uq14 HB0.out) hb); have BK1 := Lib.hid (hb.blk (k := W.heap.size) (o := nd0) (Uq15 BK0.out) (Nat.ne_of_gt HG.out)); clear hp hb; (try clear c0 c1 c2 c3 c4 c5 c6 c7 c8 c9 z0 z1 z2 z3 z4 z5 z6 z7 z8 z9 hsz); obtain ⟨⟨c0, c1, c2, c3, c4, c5, c6, c7, c8, c9⟩, z0, z1, z2, z3, z4, z5, z6, z7, z8, z9⟩ := z10 BK1.out; have hsz : W.heap.size < w1.heap.size := blk_lt BK1.out; have HZ1 := Lib.hid hsz; obtain ⟨Au, cu, g0, g1, g2, gz, -, -⟩ := (HP1.out).cells; have hgl := HP1.out.lt) | (go_at_call 52; (with_reducible refine (fail_calls g toks en n HNL.out _ ?sp).mono ?_); (case sp => exact (Uq12 HP1.out)); rintro e w2 ⟨q, rfl, he, hq, hbl⟩; have HE := Lib.hid he; have HQ := Lib.hid (lo (g := g) (o := nd0) (W := W) (Uq14 HB1.out) hq); have hb := Bu.of_below (g := g) hbl; have hp := PS.below (g := g) (toks := toks) (en := en) (at_ := (n : Int)) (Uq12 HP1.out) hbl; clear he hq hbl; have HP2 := Lib.hid hp; have HB2 := Lib.hid (Bu.trans (g := g) (a := W.alloc nd0) (Uq14 HB1.out) hb); have BK2 := Lib.hid (hb.blk (k := W.heap.size) (o := nd0) (Uq15 BK1.out) (Nat.ne_of_gt HG.out)); clear hp hb; (try clear c0 c1 c2 c3 c4 c5 c6 c7 c8 c9 z0 z1 z2 z3 z4 z5 z6 z7 z8 z9 hsz); obtain ⟨⟨c0, c1, c2, c3, c4, c5, c6, c7, c8, c9⟩, z0, z1, z2, z3, z4, z5, z6, z7, z8, z9⟩ := z10 BK2.out; have hsz : W.heap.size < w2.heap.size := blk_lt BK2.out; have HZ2 := Lib.hid hsz))
  refine bodyPost_ret (results_ct rfl _ _ W.heap.size 31 _ (0, 0) _ rfl (Uq17 BK2.out) hu rfl (by kernel_rfl)) rfl ?_
  refine ⟨?_, ?_, q, ?_, ?_, Nat.le_of_lt HQ.out⟩
  · exact (Uq12 HP2.out)
  · exact (Uq13 HB2.out)
  · rfl
  · exact (Uq7 HE.out)
set_option maxHeartbeats 8000000 in
set_option maxRecDepth 100000 in
theorem part_text (toks : List Tok) (en i : Int) (n : Nat) (tk : Tok) (ht : toks[n]? = some tk) (hlen : toks.length ≤ 1000000) (hk : tk.f0 = 2) (ho : value_Of.f tk.f2 = some (3, 0, tk.f2)) : Does 132 toks en i n (.ok (constT ⟨3, 0, tk.f2⟩), n + 1) := by
  intro g W hp
  have hu := Tryz.underlying31
  have HG := Lib.hid hp.lt
  have HP0 := Lib.hid (hp.alloc nd0)
  have HB0 := Lib.hid (Bu.refl g (W.alloc nd0))
  have BK0 := Lib.hid (blk_new W nd0)
  have HPW := Lib.hid hp
  clear hp
  obtain ⟨At, ct, p0, p1, p2, y1, hpb, hpF⟩ := (HPW.out).cells
  obtain ⟨hn, ad, rfl, t0, t1, t2, t3⟩ := PS.tok' hpF n tk ht
  have hq : ((n : Int) == (toks.length : Int)) = false := by simp; omega
  have hq1 : ((0 : Int) ≤ (n : Int)) = True := eq_true (by omega)
  have hq2 : ((n : Int) < (toks.length : Int)) = True := eq_true (by omega)
  have w1 : IntKind.i64.wrap ((n : Int) + 1) = (n : Int) + 1 := by rw [i64_w, M.wrap64_id (by unfold I64; omega)]
  have hlt : (ad.add (n * 4)).block < W.heap.size := World.block_lt_of_cell? _ _ t0
  obtain ⟨⟨c0, c1, c2, c3, c4, c5, c6, c7, c8, c9⟩, z0, z1, z2, z3, z4, z5, z6, z7, z8, z9⟩ := z10 BK0.out
  have hg1 : (g = W.heap.size) = False := eq_false (Nat.ne_of_lt HG.out)
  have hg2 : (W.heap.size = g) = False := eq_false (Nat.ne_of_gt HG.out)
  have hg3 : g < W.heap.size := HG.out
  have HN := Lib.hid hn
  clear hpb hpF hlen ht hn
  have HNL := Lib.hid (Nat.le_of_lt HN.out)
  have hk1 : (tk.f0 == 1) = false := by rw [hk]; rfl
  have hk2 : (tk.f0 == 2) = true := by rw [hk]; rfl
  clear hk
  have HO := Lib.hid ho
  clear ho
  go_enter Tryz.func132, Tryz.ntmps132
  go_wp2
  repeat (go_quiet (fail); try go_wp2)
  go_region_held3 (fun w' => w'.cell? ⟨g, 0, none⟩ = some (.slice (some ad) toks.length ct) ∧ w'.cell? ⟨g, 1, none⟩ = some (.int .i64 (n : Int)) ∧ w'.cell? (ad.add (n * 4)) = some (.int .i64 tk.f0) ∧ w'.cell? ⟨(ad.add (n * 4)).block, (ad.add (n * 4)).off + 1, none⟩ = some (.int .i64 tk.f1) ∧ w'.cell? ⟨(ad.add (n * 4)).block, (ad.add (n * 4)).off + 2, none⟩ = some (.string tk.f2) ∧ w'.cell? ⟨(ad.add (n * 4)).block, (ad.add (n * 4)).off + 3, none⟩ = some (.int .i64 tk.f3)) (go_keep) (fail)
  go_wp2_with (first | (go_at_call 40; (with_reducible refine (value_Of.calls tk.f2 _ _ _ _ HO.out).mono ?_); rintro e w1 ⟨rfl, hbl⟩; have hb := Bu.of_below (g := g) hbl; have hp := PS.below (g := g) (toks := toks) (en := en) (at_ := (n : Int)) (Uq12 HP0.out) hbl; clear hbl; have HP1 := Lib.hid hp; have HB1 := Lib.hid (Bu.trans (g := g) (a := W.alloc nd0) (Uq14 HB0.out) hb); have BK1 := Lib.hid (hb.blk (k := W.heap.size) (o := nd0) (Uq15 BK0.out) (Nat.ne_of_gt HG.out)); clear hp hb; (try clear c0 c1 c2 c3 c4 c5 c6 c7 c8 c9 z0 z1 z2 z3 z4 z5 z6 z7 z8 z9 hsz); obtain ⟨⟨c0, c1, c2, c3, c4, c5, c6, c7, c8, c9⟩, z0, z1, z2, z3, z4, z5, z6, z7, z8, z9⟩ := z10 BK1.out; have hsz : W.heap.size < w1.heap.size := blk_lt BK1.out; have HZ1 := Lib.hid hsz; obtain ⟨Au, cu, g0, g1, g2, gz, -, -⟩ := (HP1.out).cells; have hgl := HP1.out.lt))
  refine bodyPost_ret (results_ct rfl _ _ W.heap.size 31 _ (0, 0) _ rfl (Uq16 BK1.out) hu rfl (by kernel_rfl)) rfl ?_
  refine ⟨?_, ?_, .slice none 0 0, ?_, Kd.V_nil _ _ _ _ _⟩
  · show PS g toks en ((n : Int) + 1) _
    exact (Uq12 HP1.out)
  · exact (Uq13 HB1.out)
  · rfl
end Go.Proofs.YtnomfbmebafolaaGreatDoor.P

namespace Go.Proofs.YtnomfbmebafolaaGreatDoor.P
open Go.RowKit Go.Proofs.YtnomfbmebafolaaGreatDoorW.PrintWords Go.Proofs.YtnomfbmebafolaaGreatDoorW.PrintLast Go.Proofs.YtnomfbmebafolaaGreatDoorW.PrintMore
open M (I64)
set_option linter.unusedVariables false
set_option linter.unusedSimpArgs false
def opensV (toks : List Tok) (n : Nat) : Bool := match toks[n + 1]? with | some t => decide (t.f0 = 4) && (t.f2.toList == ([40] : List UInt8)) | none => false
set_option maxHeartbeats 4000000 in
set_option maxRecDepth 100000 in
theorem opens_quiet (g : Nat) (toks : List Tok) (en : Int) (n : Nat) (hn : n ≤ toks.length) (hlen : toks.length ≤ 1000000) (W : World) (hp : PS g toks en (n : Int) W) :
    Calls Tryz.prog 136 #[ptr g] W fun e W' => e = .returned (.bool (opensV toks n)) ∧ ∃ m, W' = W.drewN m := by
  obtain ⟨At, ct, c0, c1, c2, z1, hb, hF⟩ := hp.cells
  have w1 : IntKind.i64.wrap ((n : Int) + 1) = (n : Int) + 1 := by rw [i64_w, M.wrap64_id (by unfold I64; omega)]
  unfold opensV
  by_cases h : n + 1 < toks.length
  · obtain ⟨tk, htk⟩ : ∃ tk, toks[n + 1]? = some tk := ⟨_, List.getElem?_eq_getElem h⟩
    rw [htk]
    obtain ⟨_, ad, rfl, t0, t1, t2, t3⟩ := PS.tok' hF (n + 1) tk htk
    have hq : decide ((n : Int) + 1 < (toks.length : Int)) = true := decide_eq_true (by omega)
    have hq1 : ((0 : Int) ≤ (n : Int) + 1) = True := eq_true (by omega)
    have hq2 : ((n : Int) + 1 < (toks.length : Int)) = True := eq_true (by omega)
    have e1 : ((n : Int) + 1).toNat = n + 1 := by omega
    simp only []
    by_cases h4 : tk.f0 = 4
    · have hk : (tk.f0 == 4) = true := by rw [h4]; rfl
      rw [decide_eq_true h4, Bool.true_and]
      cases hs : (tk.f2.toList == ([40] : List UInt8))
      all_goals
        clear hp hb hF h htk h4 hlen hn
        go_enter Tryz.func136, Tryz.ntmps136
        go_wp2
        repeat (go_quiet (fail); try go_wp2)
        go_ret
        exact ⟨by first | rfl | (simp [hs]; done), by first | exact ⟨0, (World.drewN_zero _).symm⟩ | exact ⟨_, rfl⟩ | exact ⟨1, rfl⟩⟩
    · have hk : (tk.f0 == 4) = false := beq_eq_false_iff_ne.2 h4
      rw [decide_eq_false h4, Bool.false_and]
      clear hp hb hF h htk h4 hlen hn
      go_enter Tryz.func136, Tryz.ntmps136
      go_wp2
      repeat (go_quiet (fail); try go_wp2)
      go_ret
      exact ⟨by first | rfl | (simp; done), by first | exact ⟨0, (World.drewN_zero _).symm⟩ | exact ⟨_, rfl⟩ | exact ⟨1, rfl⟩⟩
  · rw [List.getElem?_eq_none (by omega)]
    have hq : decide ((n : Int) + 1 < (toks.length : Int)) = false := decide_eq_false (by omega)
    clear hp hb hF h hlen hn
    go_enter Tryz.func136, Tryz.ntmps136
    go_wp2
    repeat (go_quiet (fail); try go_wp2)
    go_ret
    exact ⟨by first | rfl | (simp; done), by first | exact ⟨0, (World.drewN_zero _).symm⟩ | exact ⟨_, rfl⟩ | exact ⟨1, rfl⟩⟩
theorem opens_calls (g : Nat) (toks : List Tok) (en : Int) (n : Nat) (hn : n ≤ toks.length) (hlen : toks.length ≤ 1000000) (W : World) (hp : PS g toks en (n : Int) W) :
    Calls Tryz.prog 136 #[ptr g] W fun e W' => e = .returned (.bool (opensV toks n)) ∧ Below W.heap.size W W' := by
  refine (opens_quiet g toks en n hn hlen W hp).mono ?_
  rintro e W' ⟨rfl, m, rfl⟩
  exact ⟨rfl, pw_below_drewN (Below.refl _ _) _⟩
end Go.Proofs.YtnomfbmebafolaaGreatDoor.P

namespace Go.Proofs.YtnomfbmebafolaaGreatDoor.P
open Go.RowKit Go.Proofs.YtnomfbmebafolaaGreatDoorW.PrintWords Go.Proofs.YtnomfbmebafolaaGreatDoorW.PrintLast Go.Proofs.YtnomfbmebafolaaGreatDoorW.PrintMore
attribute [local go_sem] max2_int min2_int max_two min_two max_three min_three max_four min_four   -- for this text's walks alone
set_option linter.unusedVariables false
set_option linter.unusedSimpArgs false
def addr_Made.f (a0_0 : Int) (a0_1 : Int) (a1_0 : Int) (a1_1 : Int) : Option (Int × Int × Int × Int × Bool) := (addr_Good.f a0_0 a0_1).bind fun t170 => (if t170 = true then ((addr_Good.f a1_0 a1_1).bind fun t171 => (if t171 = true then (some (mn a0_0 a1_0, mn a0_1 a1_1, mx a0_0 a1_0, mx a0_1 a1_1, true)) else (some (0, 0, 0, 0, false)))) else (some (0, 0, 0, 0, false)))
set_option maxHeartbeats 8000000 in
set_option maxRecDepth 100000 in
theorem addr_Made.calls (a0_0 : Int) (a0_1 : Int) (a1_0 : Int) (a1_1 : Int) (r1 : Int) (r2 : Int) (r3 : Int) (r4 : Int) (r5 : Bool) (w : World) (h : addr_Made.f a0_0 a0_1 a1_0 a1_1 = some (r1, r2, r3, r4, r5)) :
    Calls Tryz.prog 139 #[.agg #[.int .i64 a0_0, .int .i64 a0_1], .agg #[.int .i64 a1_0, .int .i64 a1_1]] w fun e w' => e = .returned (.tuple #[.agg #[.int .i64 r1, .int .i64 r2, .int .i64 r3, .int .i64 r4], .bool r5]) ∧ Below w.heap.size w w' := by
  have hu26 := Tryz.underlying26
  have hu28 := Tryz.underlying28
  have HB := Aside0.mk (Below.refl w.heap.size w)
  have H : ((addr_Good.f a0_0 a0_1).bind fun t170 => (if t170 = true then ((addr_Good.f a1_0 a1_1).bind fun t171 => (if t171 = true then (some (mn a0_0 a1_0, mn a0_1 a1_1, mx a0_0 a1_0, mx a0_1 a1_1, true)) else (some (0, 0, 0, 0, false)))) else (some (0, 0, 0, 0, false)))) = some (r1, r2, r3, r4, r5) := h
  clear h
  replace H := Option.bind_eq_some_iff.mp H
  obtain ⟨t170, A30, H⟩ := H
  replace H : (if t170 = true then ((addr_Good.f a1_0 a1_1).bind fun t171 => (if t171 = true then (some (mn a0_0 a1_0, mn a0_1 a1_1, mx a0_0 a1_0, mx a0_1 a1_1, true)) else (some (0, 0, 0, 0, false)))) else (some (0, 0, 0, 0, false))) = some (r1, r2, r3, r4, r5) := H
  have A3 := Aside0.mk A30
  clear A30
  by_cases c4 : t170 = true
  · subst c4
    have H1 : ((addr_Good.f a1_0 a1_1).bind fun t171 => (if t171 = true then (some (mn a0_0 a1_0, mn a0_1 a1_1, mx a0_0 a1_0, mx a0_1 a1_1, true)) else (some (0, 0, 0, 0, false)))) = some (r1, r2, r3, r4, r5) := by rw [if_pos rfl] at H; exact H
    clear H
    have H := H1
    clear H1
    replace H := Option.bind_eq_some_iff.mp H
    obtain ⟨t171, A50, H⟩ := H
    replace H : (if t171 = true then (some (mn a0_0 a1_0, mn a0_1 a1_1, mx a0_0 a1_0, mx a0_1 a1_1, true)) else (some (0, 0, 0, 0, false))) = some (r1, r2, r3, r4, r5) := H
    have A5 := Aside0.mk A50
    clear A50
    by_cases c6 : t171 = true
    · subst c6
      have H1 : (some (mn a0_0 a1_0, mn a0_1 a1_1, mx a0_0 a1_0, mx a0_1 a1_1, true)) = some (r1, r2, r3, r4, r5) := by rw [if_pos rfl] at H; exact H
      clear H
      have H := H1
      clear H1
      obtain ⟨ji7, hji7⟩ : ∃ j_ : Int, (mn a0_0 a1_0) = j_ := ⟨_, rfl⟩
      replace H : (some (ji7, mn a0_1 a1_1, mx a0_0 a1_0, mx a0_1 a1_1, true)) = some (r1, r2, r3, r4, r5) := by first | (rw [hji7] at H; exact H) | (simp only [hji7] at H ⊢; exact H)
      (try rw [hji7] at A3)
      (try rw [hji7] at A5)
      have hji7_ : (if a1_0 < a0_0 then a1_0 else a0_0) = ji7 := hji7
      obtain ⟨ji8, hji8⟩ : ∃ j_ : Int, (mn a0_1 a1_1) = j_ := ⟨_, rfl⟩
      replace H : (some (ji7, ji8, mx a0_0 a1_0, mx a0_1 a1_1, true)) = some (r1, r2, r3, r4, r5) := by first | (rw [hji8] at H; exact H) | (simp only [hji8] at H ⊢; exact H)
      (try rw [hji8] at A3)
      (try rw [hji8] at A5)
      have hji8_ : (if a1_1 < a0_1 then a1_1 else a0_1) = ji8 := hji8
      obtain ⟨ji9, hji9⟩ : ∃ j_ : Int, (mx a0_0 a1_0) = j_ := ⟨_, rfl⟩
      replace H : (some (ji7, ji8, ji9, mx a0_1 a1_1, true)) = some (r1, r2, r3, r4, r5) := by first | (rw [hji9] at H; exact H) | (simp only [hji9] at H ⊢; exact H)
      (try rw [hji9] at A3)
      (try rw [hji9] at A5)
      have hji9_ : (if a0_0 < a1_0 then a1_0 else a0_0) = ji9 := hji9
      obtain ⟨ji10, hji10⟩ : ∃ j_ : Int, (mx a0_1 a1_1) = j_ := ⟨_, rfl⟩
      replace H : (some (ji7, ji8, ji9, ji10, true)) = some (r1, r2, r3, r4, r5) := by first | (rw [hji10] at H; exact H) | (simp only [hji10] at H ⊢; exact H)
      (try rw [hji10] at A3)
      (try rw [hji10] at A5)
      have hji10_ : (if a0_1 < a1_1 then a1_1 else a0_1) = ji10 := hji10
      simp only [Option.some.injEq, Prod.mk.injEq] at H
      obtain ⟨rfl, rfl, rfl, rfl, rfl⟩ := H
      go_enter Tryz.func139, Tryz.ntmps139
      go_wp2_with (first | ((with_reducible refine gate_dst (N := 2) rfl ?_); refine box_event ?hg (N := 2) ?hd (cs := #[.int .i64 a0_0, .int .i64 a0_1]) (t := 26) ?hr ?_; (case hd => rfl); (case hg => rfl); (case hr => first | (go_simp; done) | (go_simp; rfl)); intro gb167 hg w11 hbox hb; have n0_ := Aside0.mk (below_step (by repeat first | with_reducible exact HB.out | apply zS | exact HB.out) hb); have n1_ := Aside0.mk (hbox); have n2_ := Aside0.mk ((by rw [hg]; exact (below_size (by repeat first | with_reducible exact HB.out | apply zS | exact HB.out)) : w.heap.size ≤ gb167)); have n3_ := n2_; clear HB; have HB := n0_; have BK167 := n1_; have GW167 := n2_; have GE167 := n3_; clear n0_ n1_ n2_ n3_; clear hb hbox hg) | ((with_reducible refine gate_dst (N := 3) rfl ?_); refine box_event ?hg (N := 3) ?hd (cs := #[.int .i64 a1_0, .int .i64 a1_1]) (t := 26) ?hr ?_; (case hd => rfl); (case hg => rfl); (case hr => first | (go_simp; done) | (go_simp; rfl)); intro gb168 hg w12 hbox hb; have n0_ := Aside0.mk (blk_below (g := gb167) (o := .cells #[.int .i64 a0_0, .int .i64 a0_1] 26 (0, 0)) (zB BK167.out) hb); have n1_ := Aside0.mk (below_step (by repeat first | with_reducible exact HB.out | apply zS | refine below_set ?_ GE167.out | exact HB.out) hb); have n2_ := Aside0.mk (hbox); have n3_ := Aside0.mk ((by rw [hg]; exact (below_size (by repeat first | with_reducible exact HB.out | apply zS | refine below_set ?_ GE167.out | exact HB.out)) : w.heap.size ≤ gb168)); have n4_ := n3_; have n5_ := Aside0.mk ((by rw [hg]; exact Nat.ne_of_lt (blk_lt (g := gb167) (o := .cells #[.int .i64 a0_0, .int .i64 a0_1] 26 (0, 0)) (zB BK167.out)) : gb167 ≠ gb168)); have n6_ := Aside0.mk ((by rw [hg]; exact Nat.ne_of_gt (blk_lt (g := gb167) (o := .cells #[.int .i64 a0_0, .int .i64 a0_1] 26 (0, 0)) (zB BK167.out)) : gb168 ≠ gb167)); clear BK167; clear HB; have BK167 := n0_; have HB := n1_; have BK168 := n2_; have GW168 := n3_; have GE168 := n4_; have NB167_168 := n5_; have NB168_167 := n6_; clear n0_ n1_ n2_ n3_ n4_ n5_ n6_; clear hb hbox hg) | ((with_reducible refine gate_dst (N := 4) rfl ?_); refine box_event ?hg (N := 4) ?hd (cs := #[.int .i64 0, .int .i64 0, .int .i64 0, .int .i64 0]) (t := 28) ?hr ?_; (case hd => rfl); (case hg => rfl); (case hr => first | (go_simp; done) | (go_simp; rfl)); intro gb169 hg w13 hbox hb; have n0_ := Aside0.mk (blk_below (g := gb167) (o := .cells #[.int .i64 a0_0, .int .i64 a0_1] 26 (0, 0)) (zB BK167.out) hb); have n1_ := Aside0.mk (blk_below (g := gb168) (o := .cells #[.int .i64 a1_0, .int .i64 a1_1] 26 (0, 0)) (zB BK168.out) hb); have n2_ := Aside0.mk (below_step (by repeat first | with_reducible exact HB.out | apply zS | refine below_set ?_ GE167.out | refine below_set ?_ GE168.out | exact HB.out) hb); have n3_ := Aside0.mk (hbox); have n4_ := Aside0.mk ((by rw [hg]; exact (below_size (by repeat first | with_reducible exact HB.out | apply zS | refine below_set ?_ GE167.out | refine below_set ?_ GE168.out | exact HB.out)) : w.heap.size ≤ gb169)); have n5_ := n4_; have n6_ := Aside0.mk ((by rw [hg]; exact Nat.ne_of_lt (blk_lt (g := gb167) (o := .cells #[.int .i64 a0_0, .int .i64 a0_1] 26 (0, 0)) (zB BK167.out)) : gb167 ≠ gb169)); have n7_ := Aside0.mk ((by rw [hg]; exact Nat.ne_of_gt (blk_lt (g := gb167) (o := .cells #[.int .i64 a0_0, .int .i64 a0_1] 26 (0, 0)) (zB BK167.out)) : gb169 ≠ gb167)); have n8_ := Aside0.mk ((by rw [hg]; exact Nat.ne_of_lt (blk_lt (g := gb168) (o := .cells #[.int .i64 a1_0, .int .i64 a1_1] 26 (0, 0)) (zB BK168.out)) : gb168 ≠ gb169)); have n9_ := Aside0.mk ((by rw [hg]; exact Nat.ne_of_gt (blk_lt (g := gb168) (o := .cells #[.int .i64 a1_0, .int .i64 a1_1] 26 (0, 0)) (zB BK168.out)) : gb169 ≠ gb168)); clear BK167; clear BK168; clear HB; have BK167 := n0_; have BK168 := n1_; have HB := n2_; have BK169 := n3_; have GW169 := n4_; have GE169 := n5_; have NB167_169 := n6_; have NB169_167 := n7_; have NB168_169 := n8_; have NB169_168 := n9_; clear n0_ n1_ n2_ n3_ n4_ n5_ n6_ n7_ n8_ n9_; clear hb hbox hg; have hnb14 := NB167_168.out; have hnc14 := NB168_167.out; have hnb15 := NB167_169.out; have hnc15 := NB169_167.out; obtain ⟨hcz16_0, hcz16_1, hfz16_0, hfz16_1⟩ := zC2 BK167.out) | ((with_reducible refine gate_callee (f := 48) rfl ?_); refine goesL_ (some 7) rfl rfl Tryz.func48 (by kernel_rfl) rfl #[.agg #[.int .i64 a0_0, .int .i64 a0_1]] rfl (by (try simp only [List.map_toArray, List.map_cons, List.map_nil]); first | done | rfl | (simp only [List.length_drop, List.length_take]; rfl)) ?_; (with_reducible refine (addr_Good.calls a0_0 a0_1 true _ A3.out).mono ?_); rintro e w17 ⟨rfl, hb⟩; refine ⟨_, rfl, ?_⟩; have n0_ := Aside0.mk (blk_below (g := gb167) (o := .cells #[.int .i64 a0_0, .int .i64 a0_1] 26 (0, 0)) (zB BK167.out) hb); have n1_ := Aside0.mk (blk_below (g := gb168) (o := .cells #[.int .i64 a1_0, .int .i64 a1_1] 26 (0, 0)) (zB BK168.out) hb); have n2_ := Aside0.mk (blk_below (g := gb169) (o := .cells #[.int .i64 0, .int .i64 0, .int .i64 0, .int .i64 0] 28 (0, 0)) (zB BK169.out) hb); have n3_ := Aside0.mk (below_step (by repeat first | with_reducible exact HB.out | apply zS | refine below_set ?_ GE167.out | refine below_set ?_ GE168.out | refine below_set ?_ GE169.out | exact HB.out) hb); clear BK167; clear BK168; clear BK169; clear HB; have BK167 := n0_; have BK168 := n1_; have BK169 := n2_; have HB := n3_; clear n0_ n1_ n2_ n3_; (try clear hb); (try clear hb2); (try clear hk); (try clear hi); have hnb18 := NB168_169.out; have hnc18 := NB169_168.out; obtain ⟨hcz19_0, hcz19_1, hfz19_0, hfz19_1⟩ := zC2 BK168.out) | (go_at_call 48; (with_reducible refine (addr_Good.calls a1_0 a1_1 true _ A5.out).mono ?_); rintro e w20 ⟨rfl, hb⟩; have n0_ := Aside0.mk (blk_below (g := gb167) (o := .cells #[.int .i64 a0_0, .int .i64 a0_1] 26 (0, 0)) (zB BK167.out) hb); have n1_ := Aside0.mk (blk_below (g := gb168) (o := .cells #[.int .i64 a1_0, .int .i64 a1_1] 26 (0, 0)) (zB BK168.out) hb); have n2_ := Aside0.mk (blk_below (g := gb169) (o := .cells #[.int .i64 0, .int .i64 0, .int .i64 0, .int .i64 0] 28 (0, 0)) (zB BK169.out) hb); have n3_ := Aside0.mk (below_step (by repeat first | with_reducible exact HB.out | apply zS | refine below_set ?_ GE167.out | refine below_set ?_ GE168.out | refine below_set ?_ GE169.out | exact HB.out) hb); clear BK167; clear BK168; clear BK169; clear HB; have BK167 := n0_; have BK168 := n1_; have BK169 := n2_; have HB := n3_; clear n0_ n1_ n2_ n3_; (try clear hb); (try clear hb2); (try clear hk); (try clear hi); obtain ⟨hcz21_0, hcz21_1, hfz21_0, hfz21_1⟩ := zC2 BK167.out; obtain ⟨hcz22_0, hcz22_1, hfz22_0, hfz22_1⟩ := zC2 BK168.out; obtain ⟨hcz23_0, hcz23_1, hcz23_2, hcz23_3, hfz23_0, hfz23_1, hfz23_2, hfz23_3⟩ := zC4 BK169.out))
      refine bodyPost_ret (results_ct rfl _ _ gb169 28 #[.int .i64 ji7, .int .i64 ji8, .int .i64 ji9, .int .i64 ji10] (0, 0) _ rfl (by (with_reducible repeat (first | refine blk_drewN ?_ _ | refine blk_drew ?_ | refine blk_alloc ?_ _)); refine blk_put (cs := #[.int .i64 ji7, .int .i64 ji8, .int .i64 ji9, .int .i64 0]) ?_ 3 _ rfl; (with_reducible repeat (first | refine blk_drewN ?_ _ | refine blk_drew ?_ | refine blk_alloc ?_ _)); refine blk_put (cs := #[.int .i64 ji7, .int .i64 ji8, .int .i64 0, .int .i64 0]) ?_ 2 _ rfl; (with_reducible repeat (first | refine blk_drewN ?_ _ | refine blk_drew ?_ | refine blk_alloc ?_ _)); refine blk_put (cs := #[.int .i64 ji7, .int .i64 0, .int .i64 0, .int .i64 0]) ?_ 1 _ rfl; (with_reducible repeat (first | refine blk_drewN ?_ _ | refine blk_drew ?_ | refine blk_alloc ?_ _)); refine blk_put (cs := #[.int .i64 0, .int .i64 0, .int .i64 0, .int .i64 0]) ?_ 0 _ rfl; (with_reducible repeat (first | refine blk_drewN ?_ _ | refine blk_drew ?_ | refine blk_alloc ?_ _)); exact BK169.out) Tryz.underlying28 rfl (by kernel_rfl)) rfl ?_
      exact ⟨by first | rfl | (simp [errW_none, errW_some] <;> rfl) | (simp only [← hji7, ← hji8, ← hji9, ← hji10]; first | rfl | (simp [errW_none, errW_some] <;> rfl)) | (simp [*, errW_none, errW_some] <;> rfl), by repeat first | with_reducible exact HB.out | apply zS | refine below_set ?_ GE167.out | refine below_set ?_ GE168.out | refine below_set ?_ GE169.out | exact HB.out⟩
    · replace c6 := Bool.eq_false_iff.mpr c6
      subst c6
      have H1 : (some (0, 0, 0, 0, false)) = some (r1, r2, r3, r4, r5) := by rw [if_neg (show ¬ (false = true) by decide)] at H; exact H
      clear H
      have H := H1
      clear H1
      simp only [Option.some.injEq, Prod.mk.injEq] at H
      obtain ⟨rfl, rfl, rfl, rfl, rfl⟩ := H
      go_enter Tryz.func139, Tryz.ntmps139
      go_wp2_with (first | ((with_reducible refine gate_dst (N := 2) rfl ?_); refine box_event ?hg (N := 2) ?hd (cs := #[.int .i64 a0_0, .int .i64 a0_1]) (t := 26) ?hr ?_; (case hd => rfl); (case hg => rfl); (case hr => first | (go_simp; done) | (go_simp; rfl)); intro gb167 hg w24 hbox hb; have n0_ := Aside0.mk (below_step (by repeat first | with_reducible exact HB.out | apply zS | exact HB.out) hb); have n1_ := Aside0.mk (hbox); have n2_ := Aside0.mk ((by rw [hg]; exact (below_size (by repeat first | with_reducible exact HB.out | apply zS | exact HB.out)) : w.heap.size ≤ gb167)); have n3_ := n2_; clear HB; have HB := n0_; have BK167 := n1_; have GW167 := n2_; have GE167 := n3_; clear n0_ n1_ n2_ n3_; clear hb hbox hg) | ((with_reducible refine gate_dst (N := 3) rfl ?_); refine box_event ?hg (N := 3) ?hd (cs := #[.int .i64 a1_0, .int .i64 a1_1]) (t := 26) ?hr ?_; (case hd => rfl); (case hg => rfl); (case hr => first | (go_simp; done) | (go_simp; rfl)); intro gb168 hg w25 hbox hb; have n0_ := Aside0.mk (blk_below (g := gb167) (o := .cells #[.int .i64 a0_0, .int .i64 a0_1] 26 (0, 0)) (zB BK167.out) hb); have n1_ := Aside0.mk (below_step (by repeat first | with_reducible exact HB.out | apply zS | refine below_set ?_ GE167.out | exact HB.out) hb); have n2_ := Aside0.mk (hbox); have n3_ := Aside0.mk ((by rw [hg]; exact (below_size (by repeat first | with_reducible exact HB.out | apply zS | refine below_set ?_ GE167.out | exact HB.out)) : w.heap.size ≤ gb168)); have n4_ := n3_; have n5_ := Aside0.mk ((by rw [hg]; exact Nat.ne_of_lt (blk_lt (g := gb167) (o := .cells #[.int .i64 a0_0, .int .i64 a0_1] 26 (0, 0)) (zB BK167.out)) : gb167 ≠ gb168)); have n6_ := Aside0.mk ((by rw [hg]; exact Nat.ne_of_gt (blk_lt (g := gb167) (o := .cells #[.int .i64 a0_0, .int .i64 a0_1] 26 (0, 0)) (zB BK167.out)) : gb168 ≠ gb167)); clear BK167; clear HB; have BK167 := n0_; have HB := n1_; have BK168 := n2_; have GW168 := n3_; have GE168 := n4_; have NB167_168 := n5_; have NB168_167 := n6_; clear n0_ n1_ n2_ n3_ n4_ n5_ n6_; clear hb hbox hg) | ((with_reducible refine gate_dst (N := 4) rfl ?_); refine box_event ?hg (N := 4) ?hd (cs := #[.int .i64 0, .int .i64 0, .int .i64 0, .int .i64 0]) (t := 28) ?hr ?_; (case hd => rfl); (case hg => rfl); (case hr => first | (go_simp; done) | (go_simp; rfl)); intro gb169 hg w26 hbox hb; have n0_ := Aside0.mk (blk_below (g := gb167) (o := .cells #[.int .i64 a0_0, .int .i64 a0_1] 26 (0, 0)) (zB BK167.out) hb); have n1_ := Aside0.mk (blk_below (g := gb168) (o := .cells #[.int .i64 a1_0, .int .i64 a1_1] 26 (0, 0)) (zB BK168.out) hb); have n2_ := Aside0.mk (below_step (by repeat first | with_reducible exact HB.out | apply zS | refine below_set ?_ GE167.out | refine below_set ?_ GE168.out | exact HB.out) hb); have n3_ := Aside0.mk (hbox); have n4_ := Aside0.mk ((by rw [hg]; exact (below_size (by repeat first | with_reducible exact HB.out | apply zS | refine below_set ?_ GE167.out | refine below_set ?_ GE168.out | exact HB.out)) : w.heap.size ≤ gb169)); have n5_ := n4_; have n6_ := Aside0.mk ((by rw [hg]; exact Nat.ne_of_lt (blk_lt (g := gb167) (o := .cells #[.int .i64 a0_0, .int .i64 a0_1] 26 (0, 0)) (zB BK167.out)) : gb167 ≠ gb169)); have n7_ := Aside0.mk ((by rw [hg]; exact Nat.ne_of_gt (blk_lt (g := gb167) (o := .cells #[.int .i64 a0_0, .int .i64 a0_1] 26 (0, 0)) (zB BK167.out)) : gb169 ≠ gb167)); have n8_ := Aside0.mk ((by rw [hg]; exact Nat.ne_of_lt (blk_lt (g := gb168) (o := .cells #[.int .i64 a1_0, .int .i64 a1_1] 26 (0, 0)) (zB BK168.out)) : gb168 ≠ gb169)); have n9_ := Aside0.mk ((by rw [hg]; exact Nat.ne_of_gt (blk_lt (g := gb168) (o := .cells #[.int .i64 a1_0, .int .i64 a1_1] 26 (0, 0)) (zB BK168.out)) : gb169 ≠ gb168)); clear BK167; clear BK168; clear HB; have BK167 := n0_; have BK168 := n1_; have HB := n2_; have BK169 := n3_; have GW169 := n4_; have GE169 := n5_; have NB167_169 := n6_; have NB169_167 := n7_; have NB168_169 := n8_; have NB169_168 := n9_; clear n0_ n1_ n2_ n3_ n4_ n5_ n6_ n7_ n8_ n9_; clear hb hbox hg; have hnb27 := NB167_168.out; have hnc27 := NB168_167.out; have hnb28 := NB167_169.out; have hnc28 := NB169_167.out; obtain ⟨hcz29_0, hcz29_1, hfz29_0, hfz29_1⟩ := zC2 BK167.out) | ((with_reducible refine gate_callee (f := 48) rfl ?_); refine goesL_ (some 7) rfl rfl Tryz.func48 (by kernel_rfl) rfl #[.agg #[.int .i64 a0_0, .int .i64 a0_1]] rfl (by (try simp only [List.map_toArray, List.map_cons, List.map_nil]); first | done | rfl | (simp only [List.length_drop, List.length_take]; rfl)) ?_; (with_reducible refine (addr_Good.calls a0_0 a0_1 true _ A3.out).mono ?_); rintro e w30 ⟨rfl, hb⟩; refine ⟨_, rfl, ?_⟩; have n0_ := Aside0.mk (blk_below (g := gb167) (o := .cells #[.int .i64 a0_0, .int .i64 a0_1] 26 (0, 0)) (zB BK167.out) hb); have n1_ := Aside0.mk (blk_below (g := gb168) (o := .cells #[.int .i64 a1_0, .int .i64 a1_1] 26 (0, 0)) (zB BK168.out) hb); have n2_ := Aside0.mk (blk_below (g := gb169) (o := .cells #[.int .i64 0, .int .i64 0, .int .i64 0, .int .i64 0] 28 (0, 0)) (zB BK169.out) hb); have n3_ := Aside0.mk (below_step (by repeat first | with_reducible exact HB.out | apply zS | refine below_set ?_ GE167.out | refine below_set ?_ GE168.out | refine below_set ?_ GE169.out | exact HB.out) hb); clear BK167; clear BK168; clear BK169; clear HB; have BK167 := n0_; have BK168 := n1_; have BK169 := n2_; have HB := n3_; clear n0_ n1_ n2_ n3_; (try clear hb); (try clear hb2); (try clear hk); (try clear hi); have hnb31 := NB168_169.out; have hnc31 := NB169_168.out; obtain ⟨hcz32_0, hcz32_1, hfz32_0, hfz32_1⟩ := zC2 BK168.out) | (go_at_call 48; (with_reducible refine (addr_Good.calls a1_0 a1_1 false _ A5.out).mono ?_); rintro e w33 ⟨rfl, hb⟩; have n0_ := Aside0.mk (blk_below (g := gb167) (o := .cells #[.int .i64 a0_0, .int .i64 a0_1] 26 (0, 0)) (zB BK167.out) hb); have n1_ := Aside0.mk (blk_below (g := gb168) (o := .cells #[.int .i64 a1_0, .int .i64 a1_1] 26 (0, 0)) (zB BK168.out) hb); have n2_ := Aside0.mk (blk_below (g := gb169) (o := .cells #[.int .i64 0, .int .i64 0, .int .i64 0, .int .i64 0] 28 (0, 0)) (zB BK169.out) hb); have n3_ := Aside0.mk (below_step (by repeat first | with_reducible exact HB.out | apply zS | refine below_set ?_ GE167.out | refine below_set ?_ GE168.out | refine below_set ?_ GE169.out | exact HB.out) hb); clear BK167; clear BK168; clear BK169; clear HB; have BK167 := n0_; have BK168 := n1_; have BK169 := n2_; have HB := n3_; clear n0_ n1_ n2_ n3_; (try clear hb); (try clear hb2); (try clear hk); (try clear hi); obtain ⟨hcz34_0, hcz34_1, hcz34_2, hcz34_3, hfz34_0, hfz34_1, hfz34_2, hfz34_3⟩ := zC4 BK169.out))
      refine bodyPost_ret (results_ct rfl _ _ gb169 28 #[.int .i64 0, .int .i64 0, .int .i64 0, .int .i64 0] (0, 0) _ rfl (by (with_reducible repeat (first | refine blk_drewN ?_ _ | refine blk_drew ?_ | refine blk_alloc ?_ _)); refine blk_put (cs := #[.int .i64 0, .int .i64 0, .int .i64 0, .int .i64 0]) ?_ 3 _ rfl; (with_reducible repeat (first | refine blk_drewN ?_ _ | refine blk_drew ?_ | refine blk_alloc ?_ _)); refine blk_put (cs := #[.int .i64 0, .int .i64 0, .int .i64 0, .int .i64 0]) ?_ 2 _ rfl; (with_reducible repeat (first | refine blk_drewN ?_ _ | refine blk_drew ?_ | refine blk_alloc ?_ _)); refine blk_put (cs := #[.int .i64 0, .int .i64 0, .int .i64 0, .int .i64 0]) ?_ 1 _ rfl; (with_reducible repeat (first | refine blk_drewN ?_ _ | refine blk_drew ?_ | refine blk_alloc ?_ _)); refine blk_put (cs := #[.int .i64 0, .int .i64 0, .int .i64 0, .int .i64 0]) ?_ 0 _ rfl; (with_reducible repeat (first | refine blk_drewN ?_ _ | refine blk_drew ?_ | refine blk_alloc ?_ _)); exact BK169.out) Tryz.underlying28 rfl (by kernel_rfl)) rfl ?_
      exact ⟨by first | rfl | (simp [errW_none, errW_some] <;> rfl) | (simp [*, errW_none, errW_some] <;> rfl), by repeat first | with_reducible exact HB.out | apply zS | refine below_set ?_ GE167.out | refine below_set ?_ GE168.out | refine below_set ?_ GE169.out | exact HB.out⟩
  · replace c4 := Bool.eq_false_iff.mpr c4
    subst c4
    have H1 : (some (0, 0, 0, 0, false)) = some (r1, r2, r3, r4, r5) := by rw [if_neg (show ¬ (false = true) by decide)] at H; exact H
    clear H
    have H := H1
    clear H1
    simp only [Option.some.injEq, Prod.mk.injEq] at H
    obtain ⟨rfl, rfl, rfl, rfl, rfl⟩ := H
    go_enter Tryz.func139, Tryz.ntmps139
    go_wp2_with (first | ((with_reducible refine gate_dst (N := 2) rfl ?_); refine box_event ?hg (N := 2) ?hd (cs := #[.int .i64 a0_0, .int .i64 a0_1]) (t := 26) ?hr ?_; (case hd => rfl); (case hg => rfl); (case hr => first | (go_simp; done) | (go_simp; rfl)); intro gb167 hg w35 hbox hb; have n0_ := Aside0.mk (below_step (by repeat first | with_reducible exact HB.out | apply zS | exact HB.out) hb); have n1_ := Aside0.mk (hbox); have n2_ := Aside0.mk ((by rw [hg]; exact (below_size (by repeat first | with_reducible exact HB.out | apply zS | exact HB.out)) : w.heap.size ≤ gb167)); have n3_ := n2_; clear HB; have HB := n0_; have BK167 := n1_; have GW167 := n2_; have GE167 := n3_; clear n0_ n1_ n2_ n3_; clear hb hbox hg) | ((with_reducible refine gate_dst (N := 3) rfl ?_); refine box_event ?hg (N := 3) ?hd (cs := #[.int .i64 a1_0, .int .i64 a1_1]) (t := 26) ?hr ?_; (case hd => rfl); (case hg => rfl); (case hr => first | (go_simp; done) | (go_simp; rfl)); intro gb168 hg w36 hbox hb; have n0_ := Aside0.mk (blk_below (g := gb167) (o := .cells #[.int .i64 a0_0, .int .i64 a0_1] 26 (0, 0)) (zB BK167.out) hb); have n1_ := Aside0.mk (below_step (by repeat first | with_reducible exact HB.out | apply zS | refine below_set ?_ GE167.out | exact HB.out) hb); have n2_ := Aside0.mk (hbox); have n3_ := Aside0.mk ((by rw [hg]; exact (below_size (by repeat first | with_reducible exact HB.out | apply zS | refine below_set ?_ GE167.out | exact HB.out)) : w.heap.size ≤ gb168)); have n4_ := n3_; have n5_ := Aside0.mk ((by rw [hg]; exact Nat.ne_of_lt (blk_lt (g := gb167) (o := .cells #[.int .i64 a0_0, .int .i64 a0_1] 26 (0, 0)) (zB BK167.out)) : gb167 ≠ gb168)); have n6_ := Aside0.mk ((by rw [hg]; exact Nat.ne_of_gt (blk_lt (g := gb167) (o := .cells #[.int .i64 a0_0, .int .i64 a0_1] 26 (0, 0)) (zB BK167.out)) : gb168 ≠ gb167)); clear BK167; clear HB; have BK167 := n0_; have HB := n1_; have BK168 := n2_; have GW168 := n3_; have GE168 := n4_; have NB167_168 := n5_; have NB168_167 := n6_; clear n0_ n1_ n2_ n3_ n4_ n5_ n6_; clear hb hbox hg) | ((with_reducible refine gate_dst (N := 4) rfl ?_); refine box_event ?hg (N := 4) ?hd (cs := #[.int .i64 0, .int .i64 0, .int .i64 0, .int .i64 0]) (t := 28) ?hr ?_; (case hd => rfl); (case hg => rfl); (case hr => first | (go_simp; done) | (go_simp; rfl)); intro gb169 hg w37 hbox hb; have n0_ := Aside0.mk (blk_below (g := gb167) (o := .cells #[.int .i64 a0_0, .int .i64 a0_1] 26 (0, 0)) (zB BK167.out) hb); have n1_ := Aside0.mk (blk_below (g := gb168) (o := .cells #[.int .i64 a1_0, .int .i64 a1_1] 26 (0, 0)) (zB BK168.out) hb); have n2_ := Aside0.mk (below_step (by repeat first | with_reducible exact HB.out | apply zS | refine below_set ?_ GE167.out | refine below_set ?_ GE168.out | exact HB.out) hb); have n3_ := Aside0.mk (hbox); have n4_ := Aside0.mk ((by rw [hg]; exact (below_size (by repeat first | with_reducible exact HB.out | apply zS | refine below_set ?_ GE167.out | refine below_set ?_ GE168.out | exact HB.out)) : w.heap.size ≤ gb169)); have n5_ := n4_; have n6_ := Aside0.mk ((by rw [hg]; exact Nat.ne_of_lt (blk_lt (g := gb167) (o := .cells #[.int .i64 a0_0, .int .i64 a0_1] 26 (0, 0)) (zB BK167.out)) : gb167 ≠ gb169)); have n7_ := Aside0.mk ((by rw [hg]; exact Nat.ne_of_gt (blk_lt (g := gb167) (o := .cells #[.int .i64 a0_0, .int .i64 a0_1] 26 (0, 0)) (zB BK167.out)) : gb169 ≠ gb167)); have n8_ := Aside0.mk ((by rw [hg]; exact Nat.ne_of_lt (blk_lt (g := gb168) (o := .cells #[.int .i64 a1_0, .int .i64 a1_1] 26 (0, 0)) (zB BK168.out)) : gb168 ≠ gb169)); have n9_ := Aside0.mk ((by rw [hg]; exact Nat.ne_of_gt (blk_lt (g := gb168) (o := .cells #[.int .i64 a1_0, .int .i64 a1_1] 26 (0, 0)) (zB BK168.out)) : gb169 ≠ gb168)); clear BK167; clear BK168; clear HB; have BK167 := n0_; have BK168 := n1_; have HB := n2_; have BK169 := n3_; have GW169 := n4_; have GE169 := n5_; have NB167_169 := n6_; have NB169_167 := n7_; have NB168_169 := n8_; have NB169_168 := n9_; clear n0_ n1_ n2_ n3_ n4_ n5_ n6_ n7_ n8_ n9_; clear hb hbox hg; have hnb38 := NB167_168.out; have hnc38 := NB168_167.out; have hnb39 := NB167_169.out; have hnc39 := NB169_167.out; obtain ⟨hcz40_0, hcz40_1, hfz40_0, hfz40_1⟩ := zC2 BK167.out) | ((with_reducible refine gate_callee (f := 48) rfl ?_); refine goesL_ (some 7) rfl rfl Tryz.func48 (by kernel_rfl) rfl #[.agg #[.int .i64 a0_0, .int .i64 a0_1]] rfl (by (try simp only [List.map_toArray, List.map_cons, List.map_nil]); first | done | rfl | (simp only [List.length_drop, List.length_take]; rfl)) ?_; (with_reducible refine (addr_Good.calls a0_0 a0_1 false _ A3.out).mono ?_); rintro e w41 ⟨rfl, hb⟩; refine ⟨_, rfl, ?_⟩; have n0_ := Aside0.mk (blk_below (g := gb167) (o := .cells #[.int .i64 a0_0, .int .i64 a0_1] 26 (0, 0)) (zB BK167.out) hb); have n1_ := Aside0.mk (blk_below (g := gb168) (o := .cells #[.int .i64 a1_0, .int .i64 a1_1] 26 (0, 0)) (zB BK168.out) hb); have n2_ := Aside0.mk (blk_below (g := gb169) (o := .cells #[.int .i64 0, .int .i64 0, .int .i64 0, .int .i64 0] 28 (0, 0)) (zB BK169.out) hb); have n3_ := Aside0.mk (below_step (by repeat first | with_reducible exact HB.out | apply zS | refine below_set ?_ GE167.out | refine below_set ?_ GE168.out | refine below_set ?_ GE169.out | exact HB.out) hb); clear BK167; clear BK168; clear BK169; clear HB; have BK167 := n0_; have BK168 := n1_; have BK169 := n2_; have HB := n3_; clear n0_ n1_ n2_ n3_; (try clear hb); (try clear hb2); (try clear hk); (try clear hi); have hnb42 := NB169_168.out; have hnc42 := NB168_169.out; obtain ⟨hcz43_0, hcz43_1, hcz43_2, hcz43_3, hfz43_0, hfz43_1, hfz43_2, hfz43_3⟩ := zC4 BK169.out))
    refine bodyPost_ret (results_ct rfl _ _ gb169 28 #[.int .i64 0, .int .i64 0, .int .i64 0, .int .i64 0] (0, 0) _ rfl (by (with_reducible repeat (first | refine blk_drewN ?_ _ | refine blk_drew ?_ | refine blk_alloc ?_ _)); refine blk_put (cs := #[.int .i64 0, .int .i64 0, .int .i64 0, .int .i64 0]) ?_ 3 _ rfl; (with_reducible repeat (first | refine blk_drewN ?_ _ | refine blk_drew ?_ | refine blk_alloc ?_ _)); refine blk_put (cs := #[.int .i64 0, .int .i64 0, .int .i64 0, .int .i64 0]) ?_ 2 _ rfl; (with_reducible repeat (first | refine blk_drewN ?_ _ | refine blk_drew ?_ | refine blk_alloc ?_ _)); refine blk_put (cs := #[.int .i64 0, .int .i64 0, .int .i64 0, .int .i64 0]) ?_ 1 _ rfl; (with_reducible repeat (first | refine blk_drewN ?_ _ | refine blk_drew ?_ | refine blk_alloc ?_ _)); refine blk_put (cs := #[.int .i64 0, .int .i64 0, .int .i64 0, .int .i64 0]) ?_ 0 _ rfl; (with_reducible repeat (first | refine blk_drewN ?_ _ | refine blk_drew ?_ | refine blk_alloc ?_ _)); exact BK169.out) Tryz.underlying28 rfl (by kernel_rfl)) rfl ?_
    exact ⟨by first | rfl | (simp [errW_none, errW_some] <;> rfl) | (simp [*, errW_none, errW_some] <;> rfl), by repeat first | with_reducible exact HB.out | apply zS | refine below_set ?_ GE167.out | refine below_set ?_ GE168.out | refine below_set ?_ GE169.out | exact HB.out⟩
end Go.Proofs.YtnomfbmebafolaaGreatDoor.P

namespace Go.Proofs.YtnomfbmebafolaaGreatDoor.P
open Go.RowKit Go.Proofs.YtnomfbmebafolaaGreatDoorW.PrintWords Go.Proofs.YtnomfbmebafolaaGreatDoorW.PrintLast Go.Proofs.YtnomfbmebafolaaGreatDoorW.PrintMore
open M (I64)
set_option linter.unusedVariables false
set_option linter.unusedSimpArgs false
abbrev adO (r c : Int) : Obj := .cells #[.int .i64 r, .int .i64 c] 26 (0, 0)
theorem zz2 {W : World} {g : Nat} {t : TypeId} {v0 v1 : Value} (h : W.heap[g]? = some (.cells #[v0, v1] t (0, 0))) : (W.cell? ⟨g, 0, none⟩ = some v0 ∧ W.cell? ⟨g, 1, none⟩ = some v1) ∧ (W.frozen? ⟨g, 0, none⟩ = false ∧ W.frozen? ⟨g, 1, none⟩ = false) :=
  ⟨⟨(blk_cell h 0).trans rfl, (blk_cell h 1).trans rfl⟩, blk_frozen h 0, blk_frozen h 1⟩
theorem opens_of (g : Nat) (toks : List Tok) (en : Int) (n : Nat) (hn : n ≤ toks.length) (hlen : toks.length ≤ 1000000) (b : Bool) (hb : opensV toks n = b) (W : World) (hp : PS g toks en (n : Int) W) :
    Calls Tryz.prog 136 #[ptr g] W fun e W' => e = .returned (.bool b) ∧ Below W.heap.size W W' := by
  subst hb
  exact opens_calls g toks en n hn hlen W hp
def CellOk (toks : List Tok) (en : Int) (n : Nat) (r c : Int) (n' : Nat) : Prop :=
  ∀ (g : Nat) (W : World), PS g toks en (n : Int) W → Calls Tryz.prog 138 #[ptr g] W fun e W' => e = .returned (.tuple #[.agg #[.int .i64 r, .int .i64 c], .nilIface]) ∧ PS g toks en (n' : Int) W' ∧ Bu g W W'
def CellBad (toks : List Tok) (en : Int) (n : Nat) (p c : Int) (n' : Nat) : Prop :=
  ∀ (g : Nat) (W : World), PS g toks en (n : Int) W → Calls Tryz.prog 138 #[ptr g] W fun e W' => ∃ q, e = .returned (.tuple #[.agg #[.int .i64 0, .int .i64 0], .iface 78 (ptr q)]) ∧ W'.heap[q]? = some (.cells #[.int .i64 p, .int .i64 c] 82 (0, 0)) ∧ W.heap.size ≤ q ∧ PS g toks en (n' : Int) W' ∧ Bu g W W'
theorem CellOk.go {toks : List Tok} {en : Int} {n : Nat} {r c : Int} {n' : Nat} (h : CellOk toks en n r c n') (g : Nat) (W : World) (hp : PS g toks en (n : Int) W) : Calls Tryz.prog 138 #[ptr g] W fun e W' => e = .returned (.tuple #[.agg #[.int .i64 r, .int .i64 c], .nilIface]) ∧ PS g toks en (n' : Int) W' ∧ Bu g W W' := h g W hp
theorem CellBad.go {toks : List Tok} {en : Int} {n : Nat} {p c : Int} {n' : Nat} (h : CellBad toks en n p c n') (g : Nat) (W : World) (hp : PS g toks en (n : Int) W) : Calls Tryz.prog 138 #[ptr g] W fun e W' => ∃ q, e = .returned (.tuple #[.agg #[.int .i64 0, .int .i64 0], .iface 78 (ptr q)]) ∧ W'.heap[q]? = some (.cells #[.int .i64 p, .int .i64 c] 82 (0, 0)) ∧ W.heap.size ≤ q ∧ PS g toks en (n' : Int) W' ∧ Bu g W W' := h g W hp
def cellT (r c : Int) : TN := ⟨2, ⟨0, 0, ⟨#[]⟩⟩, ⟨⟨r, c⟩, ⟨0, 0⟩⟩, ⟨#[]⟩, []⟩
def rangeT (r c x y : Int) : TN := ⟨3, ⟨0, 0, ⟨#[]⟩⟩, ⟨⟨r, c⟩, ⟨x, y⟩⟩, ⟨#[]⟩, []⟩
set_option maxHeartbeats 8000000 in
set_option maxRecDepth 100000 in
theorem name_cbad (toks : List Tok) (en i : Int) (st : ByteArray) (n : Nat) (hnl : n ≤ toks.length) (hlen : toks.length ≤ 1000000) (ho : opensV toks n = true) (n2 : Nat) (p c : Int) (hf : DoesS 137 toks en i st n (.bad p c, n2)) : DoesS 134 toks en i st n (.bad p c, n2) := by
  intro g W hp
  have hu := Tryz.underlying31
  have HG := Lib.hid hp.lt
  have HP0 := Lib.hid (hp.alloc nd0)
  have HB0 := Lib.hid (Bu.refl g (W.alloc nd0))
  have BK0 := Lib.hid (blk_new W nd0)
  have HPW := Lib.hid hp
  clear hp
  have HF := Lib.hid hf
  have HNL := Lib.hid hnl
  have HLEN := Lib.hid hlen
  have HO := Lib.hid ho
  clear hf hnl hlen ho
  go_enter Tryz.func134, Tryz.ntmps134
  go_wp2_with (first | (go_at_call 136; (with_reducible refine (opens_of g toks en n HNL.out HLEN.out _ HO.out _ ?sp).mono ?_); (case sp => exact (Uq12 HP0.out)); rintro e w1 ⟨rfl, hbl⟩; have hb := Bu.of_below (g := g) hbl; have hp := PS.below (g := g) (toks := toks) (en := en) (at_ := (n : Int)) (Uq12 HP0.out) hbl; clear hbl; have HP1 := Lib.hid hp; have HB1 := Lib.hid (Bu.trans (g := g) (a := W.alloc nd0) (Uq14 HB0.out) hb); have BK1 := Lib.hid (hb.blk (k := W.heap.size) (o := nd0) (Uq15 BK0.out) (Nat.ne_of_gt HG.out)); clear hp hb; (try clear c0 c1 c2 c3 c4 c5 c6 c7 c8 c9 z0 z1 z2 z3 z4 z5 z6 z7 z8 z9 hsz); obtain ⟨⟨c0, c1, c2, c3, c4, c5, c6, c7, c8, c9⟩, z0, z1, z2, z3, z4, z5, z6, z7, z8, z9⟩ := z10 BK1.out; have hsz : W.heap.size < w1.heap.size := blk_lt BK1.out; have HZ1 := Lib.hid hsz; obtain ⟨Au, cu, g0, g1, g2, gz, -, -⟩ := (HP1.out).cells; have hgl := HP1.out.lt) | (go_at_call 137; (with_reducible refine (HF.out.bad g _ ?sp).mono ?_); (case sp => exact (Uq12 HP1.out)); rintro e w2 ⟨hp, hb, q, rfl, he, hq⟩; have HE := Lib.hid he; have HQ := Lib.hid (lo (g := g) (o := nd0) (W := W) (Uq14 HB1.out) hq); clear he hq; have HP2 := Lib.hid hp; have HB2 := Lib.hid (Bu.trans (g := g) (a := W.alloc nd0) (Uq14 HB1.out) hb); have BK2 := Lib.hid (hb.blk (k := W.heap.size) (o := nd0) (Uq15 BK1.out) (Nat.ne_of_gt HG.out)); clear hp hb; (try clear c0 c1 c2 c3 c4 c5 c6 c7 c8 c9 z0 z1 z2 z3 z4 z5 z6 z7 z8 z9 hsz); obtain ⟨⟨c0, c1, c2, c3, c4, c5, c6, c7, c8, c9⟩, z0, z1, z2, z3, z4, z5, z6, z7, z8, z9⟩ := z10 BK2.out; have hsz : W.heap.size < w2.heap.size := blk_lt BK2.out; have HZ2 := Lib.hid hsz))
  refine bodyPost_ret (results_ct rfl _ _ W.heap.size 31 _ (0, 0) _ rfl (Uq17 BK2.out) hu rfl (by kernel_rfl)) rfl ?_
  refine ⟨?_, ?_, q, ?_, ?_, Nat.le_of_lt HQ.out⟩
  · exact (Uq12 HP2.out)
  · exact (Uq13 HB2.out)
  · rfl
  · exact (Uq7 HE.out)
set_option maxHeartbeats 8000000 in
set_option maxRecDepth 100000 in
theorem name_cok (toks : List Tok) (en i : Int) (st : ByteArray) (n : Nat) (hnl : n ≤ toks.length) (hlen : toks.length ≤ 1000000) (ho : opensV toks n = true) (n2 : Nat) (a : TN) (hf : DoesS 137 toks en i st n (.ok a, n2)) : DoesS 134 toks en i st n (.ok a, n2) := by
  intro g W hp
  have hu := Tryz.underlying31
  have HG := Lib.hid hp.lt
  have HP0 := Lib.hid (hp.alloc nd0)
  have HB0 := Lib.hid (Bu.refl g (W.alloc nd0))
  have BK0 := Lib.hid (blk_new W nd0)
  have HPW := Lib.hid hp
  clear hp
  have HF := Lib.hid hf
  have HNL := Lib.hid hnl
  have HLEN := Lib.hid hlen
  have HO := Lib.hid ho
  clear hf hnl hlen ho
  go_enter Tryz.func134, Tryz.ntmps134
  go_wp2_with (first | (go_at_call 136; (with_reducible refine (opens_of g toks en n HNL.out HLEN.out _ HO.out _ ?sp).mono ?_); (case sp => exact (Uq12 HP0.out)); rintro e w1 ⟨rfl, hbl⟩; have hb := Bu.of_below (g := g) hbl; have hp := PS.below (g := g) (toks := toks) (en := en) (at_ := (n : Int)) (Uq12 HP0.out) hbl; clear hbl; have HP1 := Lib.hid hp; have HB1 := Lib.hid (Bu.trans (g := g) (a := W.alloc nd0) (Uq14 HB0.out) hb); have BK1 := Lib.hid (hb.blk (k := W.heap.size) (o := nd0) (Uq15 BK0.out) (Nat.ne_of_gt HG.out)); clear hp hb; (try clear c0 c1 c2 c3 c4 c5 c6 c7 c8 c9 z0 z1 z2 z3 z4 z5 z6 z7 z8 z9 hsz); obtain ⟨⟨c0, c1, c2, c3, c4, c5, c6, c7, c8, c9⟩, z0, z1, z2, z3, z4, z5, z6, z7, z8, z9⟩ := z10 BK1.out; have hsz : W.heap.size < w1.heap.size := blk_lt BK1.out; have HZ1 := Lib.hid hsz; obtain ⟨Au, cu, g0, g1, g2, gz, -, -⟩ := (HP1.out).cells; have hgl := HP1.out.lt) | (go_at_call 137; (fail_if_success have := HP2); (with_reducible refine (HF.out.ok g _ ?sp).mono ?_); (case sp => exact (Uq12 HP1.out)); rintro e w2 ⟨hp, hb, v2, rfl, hv⟩; obtain ⟨AA2, kk2, rfl⟩ := Kd.V_slice hv; have HV2 := Lib.hid (Kd.V_mono hv (fun k hk => lo (g := g) (o := nd0) (W := W) (Uq14 HB1.out) hk)); clear hv; have HP2 := Lib.hid hp; have HB2 := Lib.hid (Bu.trans (g := g) (a := W.alloc nd0) (Uq14 HB1.out) hb); have BK2 := Lib.hid (hb.blk (k := W.heap.size) (o := nd0) (Uq15 BK1.out) (Nat.ne_of_gt HG.out)); clear hp hb; (try clear c0 c1 c2 c3 c4 c5 c6 c7 c8 c9 z0 z1 z2 z3 z4 z5 z6 z7 z8 z9 hsz); obtain ⟨⟨c0, c1, c2, c3, c4, c5, c6, c7, c8, c9⟩, z0, z1, z2, z3, z4, z5, z6, z7, z8, z9⟩ := z10 BK2.out; have hsz : W.heap.size < w2.heap.size := blk_lt BK2.out; have HZ2 := Lib.hid hsz))
  refine bodyPost_ret (results_ct rfl _ _ W.heap.size 31 _ (0, 0) _ rfl (Uq17 BK2.out) hu rfl (by kernel_rfl)) rfl ?_
  refine ⟨?_, ?_, (.slice AA2 a.f4.length kk2), ?_, Kd.V_mono ?_ (fun k hk => Nat.le_of_lt hk)⟩
  · exact (Uq12 HP2.out)
  · exact (Uq13 HB2.out)
  · rfl
  · exact (Uq9 HV2.out)
set_option maxHeartbeats 8000000 in
set_option maxRecDepth 100000 in
theorem name_true (toks : List Tok) (en i : Int) (st : ByteArray) (n : Nat) (hnl : n ≤ toks.length) (hlen : toks.length ≤ 1000000) (ho : opensV toks n = false)(s1 : (st.toList == ([84, 82, 85, 69] : List UInt8)) = true) : DoesS 134 toks en i st n (.ok (constT ⟨1, 1, ⟨#[]⟩⟩), n + 1) := by
  intro g W hp
  have hu := Tryz.underlying31
  have HG := Lib.hid hp.lt
  have HP0 := Lib.hid (hp.alloc nd0)
  have HB0 := Lib.hid (Bu.refl g (W.alloc nd0))
  have BK0 := Lib.hid (blk_new W nd0)
  have HPW := Lib.hid hp
  clear hp
  have w1 : IntKind.i64.wrap ((n : Int) + 1) = (n : Int) + 1 := by rw [i64_w, M.wrap64_id (by unfold I64; omega)]
  have hg1 : (g = W.heap.size) = False := eq_false (Nat.ne_of_lt HG.out)
  have hg2 : (W.heap.size = g) = False := eq_false (Nat.ne_of_gt HG.out)
  have HNL := Lib.hid hnl
  have HLEN := Lib.hid hlen
  have HO := Lib.hid ho
  clear hnl hlen ho
  go_enter Tryz.func134, Tryz.ntmps134
  go_wp2_with (first | (go_at_call 136; (with_reducible refine (opens_of g toks en n HNL.out HLEN.out _ HO.out _ ?sp).mono ?_); (case sp => exact (Uq12 HP0.out)); rintro e w1 ⟨rfl, hbl⟩; have hb := Bu.of_below (g := g) hbl; have hp := PS.below (g := g) (toks := toks) (en := en) (at_ := (n : Int)) (Uq12 HP0.out) hbl; clear hbl; have HP1 := Lib.hid hp; have HB1 := Lib.hid (Bu.trans (g := g) (a := W.alloc nd0) (Uq14 HB0.out) hb); have BK1 := Lib.hid (hb.blk (k := W.heap.size) (o := nd0) (Uq15 BK0.out) (Nat.ne_of_gt HG.out)); clear hp hb; (try clear c0 c1 c2 c3 c4 c5 c6 c7 c8 c9 z0 z1 z2 z3 z4 z5 z6 z7 z8 z9 hsz); obtain ⟨⟨c0, c1, c2, c3, c4, c5, c6, c7, c8, c9⟩, z0, z1, z2, z3, z4, z5, z6, z7, z8, z9⟩ := z10 BK1.out; have hsz : W.heap.size < w1.heap.size := blk_lt BK1.out; have HZ1 := Lib.hid hsz; obtain ⟨Au, cu, g0, g1, g2, gz, -, -⟩ := (HP1.out).cells; have hgl := HP1.out.lt))
  refine bodyPost_ret (results_ct rfl _ _ W.heap.size 31 _ (0, 0) _ rfl (Uq16 BK1.out) hu rfl (by kernel_rfl)) rfl ?_
  refine ⟨?_, ?_, .slice none 0 0, ?_, Kd.V_nil _ _ _ _ _⟩
  · show PS g toks en ((n : Int) + 1) _
    exact (Uq12 HP1.out)
  · exact (Uq13 HB1.out)
  · rfl
set_option maxHeartbeats 8000000 in
set_option maxRecDepth 100000 in
theorem name_false (toks : List Tok) (en i : Int) (st : ByteArray) (n : Nat) (hnl : n ≤ toks.length) (hlen : toks.length ≤ 1000000) (ho : opensV toks n = false)(s1 : (st.toList == ([84, 82, 85, 69] : List UInt8)) = false)(s2 : (st.toList == ([70, 65, 76, 83, 69] : List UInt8)) = true) : DoesS 134 toks en i st n (.ok (constT ⟨1, 0, ⟨#[]⟩⟩), n + 1) := by
  intro g W hp
  have hu := Tryz.underlying31
  have HG := Lib.hid hp.lt
  have HP0 := Lib.hid (hp.alloc nd0)
  have HB0 := Lib.hid (Bu.refl g (W.alloc nd0))
  have BK0 := Lib.hid (blk_new W nd0)
  have HPW := Lib.hid hp
  clear hp
  have w1 : IntKind.i64.wrap ((n : Int) + 1) = (n : Int) + 1 := by rw [i64_w, M.wrap64_id (by unfold I64; omega)]
  have hg1 : (g = W.heap.size) = False := eq_false (Nat.ne_of_lt HG.out)
  have hg2 : (W.heap.size = g) = False := eq_false (Nat.ne_of_gt HG.out)
  have HNL := Lib.hid hnl
  have HLEN := Lib.hid hlen
  have HO := Lib.hid ho
  clear hnl hlen ho
  go_enter Tryz.func134, Tryz.ntmps134
  go_wp2_with (first | (go_at_call 136; (with_reducible refine (opens_of g toks en n HNL.out HLEN.out _ HO.out _ ?sp).mono ?_); (case sp => exact (Uq12 HP0.out)); rintro e w1 ⟨rfl, hbl⟩; have hb := Bu.of_below (g := g) hbl; have hp := PS.below (g := g) (toks := toks) (en := en) (at_ := (n : Int)) (Uq12 HP0.out) hbl; clear hbl; have HP1 := Lib.hid hp; have HB1 := Lib.hid (Bu.trans (g := g) (a := W.alloc nd0) (Uq14 HB0.out) hb); have BK1 := Lib.hid (hb.blk (k := W.heap.size) (o := nd0) (Uq15 BK0.out) (Nat.ne_of_gt HG.out)); clear hp hb; (try clear c0 c1 c2 c3 c4 c5 c6 c7 c8 c9 z0 z1 z2 z3 z4 z5 z6 z7 z8 z9 hsz); obtain ⟨⟨c0, c1, c2, c3, c4, c5, c6, c7, c8, c9⟩, z0, z1, z2, z3, z4, z5, z6, z7, z8, z9⟩ := z10 BK1.out; have hsz : W.heap.size < w1.heap.size := blk_lt BK1.out; have HZ1 := Lib.hid hsz; obtain ⟨Au, cu, g0, g1, g2, gz, -, -⟩ := (HP1.out).cells; have hgl := HP1.out.lt))
  refine bodyPost_ret (results_ct rfl _ _ W.heap.size 31 _ (0, 0) _ rfl (Uq16 BK1.out) hu rfl (by kernel_rfl)) rfl ?_
  refine ⟨?_, ?_, .slice none 0 0, ?_, Kd.V_nil _ _ _ _ _⟩
  · show PS g toks en ((n : Int) + 1) _
    exact (Uq12 HP1.out)
  · exact (Uq13 HB1.out)
  · rfl
set_option maxHeartbeats 8000000 in
set_option maxRecDepth 100000 in
theorem name_abad (toks : List Tok) (en i : Int) (st : ByteArray) (n : Nat) (hnl : n ≤ toks.length) (hlen : toks.length ≤ 1000000) (ho : opensV toks n = false)(s1 : (st.toList == ([84, 82, 85, 69] : List UInt8)) = false)(s2 : (st.toList == ([70, 65, 76, 83, 69] : List UInt8)) = false) (n1 : Nat) (p c : Int) (ha : CellBad toks en n p c n1) : DoesS 134 toks en i st n (.bad p c, n1) := by
  intro g W hp
  have hu := Tryz.underlying31
  have HG := Lib.hid hp.lt
  have HP0 := Lib.hid (hp.alloc nd0)
  have HB0 := Lib.hid (Bu.refl g (W.alloc nd0))
  have BK0 := Lib.hid (blk_new W nd0)
  have HPW := Lib.hid hp
  clear hp
  have w1 : IntKind.i64.wrap ((n : Int) + 1) = (n : Int) + 1 := by rw [i64_w, M.wrap64_id (by unfold I64; omega)]
  have hg1 : (g = W.heap.size) = False := eq_false (Nat.ne_of_lt HG.out)
  have hg2 : (W.heap.size = g) = False := eq_false (Nat.ne_of_gt HG.out)
  have HA := Lib.hid ha
  have HNL := Lib.hid hnl
  have HLEN := Lib.hid hlen
  have HO := Lib.hid ho
  clear ha hnl hlen ho
  go_enter Tryz.func134, Tryz.ntmps134
  go_wp2_with (first | (go_at_call 136; (with_reducible refine (opens_of g toks en n HNL.out HLEN.out _ HO.out _ ?sp).mono ?_); (case sp => exact (Uq12 HP0.out)); rintro e w1 ⟨rfl, hbl⟩; have hb := Bu.of_below (g := g) hbl; have hp := PS.below (g := g) (toks := toks) (en := en) (at_ := (n : Int)) (Uq12 HP0.out) hbl; clear hbl; have HP1 := Lib.hid hp; have HB1 := Lib.hid (Bu.trans (g := g) (a := W.alloc nd0) (Uq14 HB0.out) hb); have BK1 := Lib.hid (hb.blk (k := W.heap.size) (o := nd0) (Uq15 BK0.out) (Nat.ne_of_gt HG.out)); clear hp hb; (try clear c0 c1 c2 c3 c4 c5 c6 c7 c8 c9 z0 z1 z2 z3 z4 z5 z6 z7 z8 z9 hsz); obtain ⟨⟨c0, c1, c2, c3, c4, c5, c6, c7, c8, c9⟩, z0, z1, z2, z3, z4, z5, z6, z7, z8, z9⟩ := z10 BK1.out; have hsz : W.heap.size < w1.heap.size := blk_lt BK1.out; have HZ1 := Lib.hid hsz; obtain ⟨Au, cu, g0, g1, g2, gz, -, -⟩ := (HP1.out).cells; have hgl := HP1.out.lt) | (go_at_call 138; (with_reducible refine (HA.out.go g _ ?sp).mono ?_); (case sp => exact (Uq12 HP1.out)); rintro e w2 ⟨q, rfl, he, hq, hp, hb⟩; have HE := Lib.hid he; have HQ := Lib.hid (lo (g := g) (o := nd0) (W := W) (Uq14 HB1.out) hq); clear he hq; have HP2 := Lib.hid hp; have HB2 := Lib.hid (Bu.trans (g := g) (a := W.alloc nd0) (Uq14 HB1.out) hb); have BK2 := Lib.hid (hb.blk (k := W.heap.size) (o := nd0) (Uq15 BK1.out) (Nat.ne_of_gt HG.out)); clear hp hb; (try clear c0 c1 c2 c3 c4 c5 c6 c7 c8 c9 z0 z1 z2 z3 z4 z5 z6 z7 z8 z9 hsz); obtain ⟨⟨c0, c1, c2, c3, c4, c5, c6, c7, c8, c9⟩, z0, z1, z2, z3, z4, z5, z6, z7, z8, z9⟩ := z10 BK2.out; have hsz : W.heap.size < w2.heap.size := blk_lt BK2.out; have HZ2 := Lib.hid hsz))
  refine bodyPost_ret (results_ct rfl _ _ W.heap.size 31 _ (0, 0) _ rfl (Uq17 BK2.out) hu rfl (by kernel_rfl)) rfl ?_
  refine ⟨?_, ?_, q, ?_, ?_, Nat.le_of_lt HQ.out⟩
  · exact (Uq12 HP2.out)
  · exact (Uq13 HB2.out)
  · rfl
  · exact (Uq7 HE.out)
set_option maxHeartbeats 8000000 in
set_option maxRecDepth 100000 in
theorem name_cell (toks : List Tok) (en i : Int) (st : ByteArray) (n : Nat) (hnl : n ≤ toks.length) (hlen : toks.length ≤ 1000000) (ho : opensV toks n = false)(s1 : (st.toList == ([84, 82, 85, 69] : List UInt8)) = false)(s2 : (st.toList == ([70, 65, 76, 83, 69] : List UInt8)) = false) (r c : Int) (n1 : Nat) (ha : CellOk toks en n r c n1) (s : ByteArray) (n2 : Nat) (hs : signV toks n1 [⟨#[58]⟩] = (s, false, n2)) (hn : n1 ≤ toks.length) : DoesS 134 toks en i st n (.ok (cellT r c), n2) := by
  intro g W hp
  have hu := Tryz.underlying31
  have HG := Lib.hid hp.lt
  have HP0 := Lib.hid (hp.alloc nd0)
  have HB0 := Lib.hid (Bu.refl g (W.alloc nd0))
  have BK0 := Lib.hid (blk_new W nd0)
  have HPW := Lib.hid hp
  clear hp
  have w1 : IntKind.i64.wrap ((n : Int) + 1) = (n : Int) + 1 := by rw [i64_w, M.wrap64_id (by unfold I64; omega)]
  have hg1 : (g = W.heap.size) = False := eq_false (Nat.ne_of_lt HG.out)
  have hg2 : (W.heap.size = g) = False := eq_false (Nat.ne_of_gt HG.out)
  have HA := Lib.hid ha
  have HS := Lib.hid hs
  have HN := Lib.hid hn
  have HNL := Lib.hid hnl
  have HLEN := Lib.hid hlen
  have HO := Lib.hid ho
  clear ha hs hn hnl hlen ho
  go_enter Tryz.func134, Tryz.ntmps134
  go_wp2_with (first | (go_at_call 136; (with_reducible refine (opens_of g toks en n HNL.out HLEN.out _ HO.out _ ?sp).mono ?_); (case sp => exact (Uq12 HP0.out)); rintro e w1 ⟨rfl, hbl⟩; have hb := Bu.of_below (g := g) hbl; have hp := PS.below (g := g) (toks := toks) (en := en) (at_ := (n : Int)) (Uq12 HP0.out) hbl; clear hbl; have HP1 := Lib.hid hp; have HB1 := Lib.hid (Bu.trans (g := g) (a := W.alloc nd0) (Uq14 HB0.out) hb); have BK1 := Lib.hid (hb.blk (k := W.heap.size) (o := nd0) (Uq15 BK0.out) (Nat.ne_of_gt HG.out)); clear hp hb; (try clear c0 c1 c2 c3 c4 c5 c6 c7 c8 c9 z0 z1 z2 z3 z4 z5 z6 z7 z8 z9 hsz); obtain ⟨⟨c0, c1, c2, c3, c4, c5, c6, c7, c8, c9⟩, z0, z1, z2, z3, z4, z5, z6, z7, z8, z9⟩ := z10 BK1.out; have hsz : W.heap.size < w1.heap.size := blk_lt BK1.out; have HZ1 := Lib.hid hsz; obtain ⟨Au, cu, g0, g1, g2, gz, -, -⟩ := (HP1.out).cells; have hgl := HP1.out.lt) | (go_at_call 138; (fail_if_success have := HP2); (with_reducible refine (HA.out.go g _ ?sp).mono ?_); (case sp => exact (Uq12 HP1.out)); rintro e w2 ⟨rfl, hp, hb⟩; have HP2 := Lib.hid hp; have HB2 := Lib.hid (Bu.trans (g := g) (a := W.alloc nd0) (Uq14 HB1.out) hb); have BK2 := Lib.hid (hb.blk (k := W.heap.size) (o := nd0) (Uq15 BK1.out) (Nat.ne_of_gt HG.out)); clear hp hb; (try clear c0 c1 c2 c3 c4 c5 c6 c7 c8 c9 z0 z1 z2 z3 z4 z5 z6 z7 z8 z9 hsz); obtain ⟨⟨c0, c1, c2, c3, c4, c5, c6, c7, c8, c9⟩, z0, z1, z2, z3, z4, z5, z6, z7, z8, z9⟩ := z10 BK2.out; have hsz : W.heap.size < w2.heap.size := blk_lt BK2.out; have HZ2 := Lib.hid hsz) | (go_at_call 75; (with_reducible refine (sign_of g toks en _ HN.out _ _ _ _ _ _ _ HS.out ?s1 HLEN.out _ ?sp ?s2 ?s3 ?s4).mono ?_); (case sp => exact (Uq12 HP2.out)); (case s1 => decide); (case s2 => exact strC_new (by simp) rfl (by decide)); (case s3 => decide); (case s4 => rfl); rintro e w3 ⟨rfl, hp, hb⟩; have HP3 := Lib.hid hp; have HB3 := Lib.hid (Bu.trans (g := g) (a := W.alloc nd0) (Uq14 HB2.out) hb); have BK3 := Lib.hid (hb.blk (k := W.heap.size) (o := nd0) (Uq15 BK2.out) (Nat.ne_of_gt HG.out)); have BC := Lib.hid (hb.blk (k := w2.heap.size) (o := adO r c) (Uq15 BK2.out) (Nat.ne_of_gt (Nat.lt_trans HG.out HZ2.out))); clear hp hb; (try clear c0 c1 c2 c3 c4 c5 c6 c7 c8 c9 z0 z1 z2 z3 z4 z5 z6 z7 z8 z9 hsz); obtain ⟨⟨c0, c1, c2, c3, c4, c5, c6, c7, c8, c9⟩, z0, z1, z2, z3, z4, z5, z6, z7, z8, z9⟩ := z10 BK3.out; have hsz : W.heap.size < w3.heap.size := blk_lt BK3.out; have HZ3 := Lib.hid hsz; obtain ⟨⟨d0_0, d0_1⟩, -⟩ := zz2 BC.out; have hd0_ := blk_lt BC.out))
  refine bodyPost_ret (results_ct rfl _ _ W.heap.size 31 _ (0, 0) _ rfl (by with_reducible repeat (first | exact put10_blk BK3.out _ _ _ _ _ _ _ _ _ _ | refine put10_nd ?_ _ _ _ _ _ _ _ _ _ _ | exact BK3.out | exact blk_new _ _ | refine blk_alloc ?_ _ | refine blk_drewN ?_ _ | refine blk_drew ?_ | refine blk_set ?_ (Nat.ne_of_gt HG.out) _)) hu rfl (by kernel_rfl)) rfl ?_
  refine ⟨?_, ?_, .slice none 0 0, ?_, Kd.V_nil _ _ _ _ _⟩
  · exact (Uq12 HP3.out)
  · exact (Uq13 HB3.out)
  · rfl
set_option maxHeartbeats 8000000 in
set_option maxRecDepth 100000 in
theorem name_bbad (toks : List Tok) (en i : Int) (st : ByteArray) (n : Nat) (hnl : n ≤ toks.length) (hlen : toks.length ≤ 1000000) (ho : opensV toks n = false)(s1 : (st.toList == ([84, 82, 85, 69] : List UInt8)) = false)(s2 : (st.toList == ([70, 65, 76, 83, 69] : List UInt8)) = false) (r c : Int) (n1 : Nat) (ha : CellOk toks en n r c n1) (s : ByteArray) (n2 : Nat) (hs : signV toks n1 [⟨#[58]⟩] = (s, true, n2)) (hn : n1 ≤ toks.length) (n3 : Nat) (p d : Int) (hbb : CellBad toks en n2 p d n3) : DoesS 134 toks en i st n (.bad p d, n3) := by
  intro g W hp
  have hu := Tryz.underlying31
  have HG := Lib.hid hp.lt
  have HP0 := Lib.hid (hp.alloc nd0)
  have HB0 := Lib.hid (Bu.refl g (W.alloc nd0))
  have BK0 := Lib.hid (blk_new W nd0)
  have HPW := Lib.hid hp
  clear hp
  have w1 : IntKind.i64.wrap ((n : Int) + 1) = (n : Int) + 1 := by rw [i64_w, M.wrap64_id (by unfold I64; omega)]
  have hg1 : (g = W.heap.size) = False := eq_false (Nat.ne_of_lt HG.out)
  have hg2 : (W.heap.size = g) = False := eq_false (Nat.ne_of_gt HG.out)
  have HA := Lib.hid ha
  have HS := Lib.hid hs
  have HN := Lib.hid hn
  have HX := Lib.hid hbb
  have HNL := Lib.hid hnl
  have HLEN := Lib.hid hlen
  have HO := Lib.hid ho
  clear ha hs hn hbb hnl hlen ho
  go_enter Tryz.func134, Tryz.ntmps134
  go_wp2_with (first | (go_at_call 136; (with_reducible refine (opens_of g toks en n HNL.out HLEN.out _ HO.out _ ?sp).mono ?_); (case sp => exact (Uq12 HP0.out)); rintro e w1 ⟨rfl, hbl⟩; have hb := Bu.of_below (g := g) hbl; have hp := PS.below (g := g) (toks := toks) (en := en) (at_ := (n : Int)) (Uq12 HP0.out) hbl; clear hbl; have HP1 := Lib.hid hp; have HB1 := Lib.hid (Bu.trans (g := g) (a := W.alloc nd0) (Uq14 HB0.out) hb); have BK1 := Lib.hid (hb.blk (k := W.heap.size) (o := nd0) (Uq15 BK0.out) (Nat.ne_of_gt HG.out)); clear hp hb; (try clear c0 c1 c2 c3 c4 c5 c6 c7 c8 c9 z0 z1 z2 z3 z4 z5 z6 z7 z8 z9 hsz); obtain ⟨⟨c0, c1, c2, c3, c4, c5, c6, c7, c8, c9⟩, z0, z1, z2, z3, z4, z5, z6, z7, z8, z9⟩ := z10 BK1.out; have hsz : W.heap.size < w1.heap.size := blk_lt BK1.out; have HZ1 := Lib.hid hsz; obtain ⟨Au, cu, g0, g1, g2, gz, -, -⟩ := (HP1.out).cells; have hgl := HP1.out.lt) | (go_at_call 138; (fail_if_success have := HP2); (with_reducible refine (HA.out.go g _ ?sp).mono ?_); (case sp => exact (Uq12 HP1.out)); rintro e w2 ⟨rfl, hp, hb⟩; have HP2 := Lib.hid hp; have HB2 := Lib.hid (Bu.trans (g := g) (a := W.alloc nd0) (Uq14 HB1.out) hb); have BK2 := Lib.hid (hb.blk (k := W.heap.size) (o := nd0) (Uq15 BK1.out) (Nat.ne_of_gt HG.out)); clear hp hb; (try clear c0 c1 c2 c3 c4 c5 c6 c7 c8 c9 z0 z1 z2 z3 z4 z5 z6 z7 z8 z9 hsz); obtain ⟨⟨c0, c1, c2, c3, c4, c5, c6, c7, c8, c9⟩, z0, z1, z2, z3, z4, z5, z6, z7, z8, z9⟩ := z10 BK2.out; have hsz : W.heap.size < w2.heap.size := blk_lt BK2.out; have HZ2 := Lib.hid hsz) | (go_at_call 75; (with_reducible refine (sign_of g toks en _ HN.out _ _ _ _ _ _ _ HS.out ?s1 HLEN.out _ ?sp ?s2 ?s3 ?s4).mono ?_); (case sp => exact (Uq12 HP2.out)); (case s1 => decide); (case s2 => exact strC_new (by simp) rfl (by decide)); (case s3 => decide); (case s4 => rfl); rintro e w3 ⟨rfl, hp, hb⟩; have HP3 := Lib.hid hp; have HB3 := Lib.hid (Bu.trans (g := g) (a := W.alloc nd0) (Uq14 HB2.out) hb); have BK3 := Lib.hid (hb.blk (k := W.heap.size) (o := nd0) (Uq15 BK2.out) (Nat.ne_of_gt HG.out)); have BC := Lib.hid (hb.blk (k := w2.heap.size) (o := adO r c) (Uq15 BK2.out) (Nat.ne_of_gt (Nat.lt_trans HG.out HZ2.out))); clear hp hb; (try clear c0 c1 c2 c3 c4 c5 c6 c7 c8 c9 z0 z1 z2 z3 z4 z5 z6 z7 z8 z9 hsz); obtain ⟨⟨c0, c1, c2, c3, c4, c5, c6, c7, c8, c9⟩, z0, z1, z2, z3, z4, z5, z6, z7, z8, z9⟩ := z10 BK3.out; have hsz : W.heap.size < w3.heap.size := blk_lt BK3.out; have HZ3 := Lib.hid hsz; obtain ⟨⟨d0_0, d0_1⟩, -⟩ := zz2 BC.out; have hd0_ := blk_lt BC.out) | (go_at_call 138; (with_reducible refine (HX.out.go g _ ?sp).mono ?_); (case sp => exact (Uq12 HP3.out)); rintro e w4 ⟨q, rfl, he, hq, hp, hb⟩; have HE := Lib.hid he; have HQ := Lib.hid (lo (g := g) (o := nd0) (W := W) (Uq14 HB3.out) hq); clear he hq; have HP4 := Lib.hid hp; have HB4 := Lib.hid (Bu.trans (g := g) (a := W.alloc nd0) (Uq14 HB3.out) hb); have BK4 := Lib.hid (hb.blk (k := W.heap.size) (o := nd0) (Uq15 BK3.out) (Nat.ne_of_gt HG.out)); clear hp hb; (try clear c0 c1 c2 c3 c4 c5 c6 c7 c8 c9 z0 z1 z2 z3 z4 z5 z6 z7 z8 z9 hsz); obtain ⟨⟨c0, c1, c2, c3, c4, c5, c6, c7, c8, c9⟩, z0, z1, z2, z3, z4, z5, z6, z7, z8, z9⟩ := z10 BK4.out; have hsz : W.heap.size < w4.heap.size := blk_lt BK4.out; have HZ4 := Lib.hid hsz))
  refine bodyPost_ret (results_ct rfl _ _ W.heap.size 31 _ (0, 0) _ rfl (by with_reducible repeat (first | exact put10_blk BK4.out _ _ _ _ _ _ _ _ _ _ | refine put10_nd ?_ _ _ _ _ _ _ _ _ _ _ | exact BK4.out | exact blk_new _ _ | refine blk_alloc ?_ _ | refine blk_drewN ?_ _ | refine blk_drew ?_ | refine blk_set ?_ (Nat.ne_of_gt HG.out) _)) hu rfl (by kernel_rfl)) rfl ?_
  refine ⟨?_, ?_, q, ?_, ?_, Nat.le_of_lt HQ.out⟩
  · exact (Uq12 HP4.out)
  · exact (Uq13 HB4.out)
  · rfl
  · exact (Uq7 HE.out)
set_option maxHeartbeats 8000000 in
set_option maxRecDepth 100000 in
theorem name_range (toks : List Tok) (en i : Int) (st : ByteArray) (n : Nat) (hnl : n ≤ toks.length) (hlen : toks.length ≤ 1000000) (ho : opensV toks n = false)(s1 : (st.toList == ([84, 82, 85, 69] : List UInt8)) = false)(s2 : (st.toList == ([70, 65, 76, 83, 69] : List UInt8)) = false) (r c : Int) (n1 : Nat) (ha : CellOk toks en n r c n1) (s : ByteArray) (n2 : Nat) (hs : signV toks n1 [⟨#[58]⟩] = (s, true, n2)) (hn : n1 ≤ toks.length) (n3 : Nat) (x y : Int) (hbb : CellOk toks en n2 x y n3) (u1 u2 u3 u4 : Int) (ub : Bool) (hmd : addr_Made.f r c x y = some (u1, u2, u3, u4, ub)) : DoesS 134 toks en i st n (.ok (rangeT u1 u2 u3 u4), n3) := by
  intro g W hp
  have hu := Tryz.underlying31
  have HG := Lib.hid hp.lt
  have HP0 := Lib.hid (hp.alloc nd0)
  have HB0 := Lib.hid (Bu.refl g (W.alloc nd0))
  have BK0 := Lib.hid (blk_new W nd0)
  have HPW := Lib.hid hp
  clear hp
  have w1 : IntKind.i64.wrap ((n : Int) + 1) = (n : Int) + 1 := by rw [i64_w, M.wrap64_id (by unfold I64; omega)]
  have hg1 : (g = W.heap.size) = False := eq_false (Nat.ne_of_lt HG.out)
  have hg2 : (W.heap.size = g) = False := eq_false (Nat.ne_of_gt HG.out)
  have HA := Lib.hid ha
  have HS := Lib.hid hs
  have HN := Lib.hid hn
  have HX := Lib.hid hbb
  have HMD := Lib.hid hmd
  have HNL := Lib.hid hnl
  have HLEN := Lib.hid hlen
  have HO := Lib.hid ho
  clear ha hs hn hbb hmd hnl hlen ho
  go_enter Tryz.func134, Tryz.ntmps134
  go_wp2_with (first | (go_at_call 136; (with_reducible refine (opens_of g toks en n HNL.out HLEN.out _ HO.out _ ?sp).mono ?_); (case sp => exact (Uq12 HP0.out)); rintro e w1 ⟨rfl, hbl⟩; have hb := Bu.of_below (g := g) hbl; have hp := PS.below (g := g) (toks := toks) (en := en) (at_ := (n : Int)) (Uq12 HP0.out) hbl; clear hbl; have HP1 := Lib.hid hp; have HB1 := Lib.hid (Bu.trans (g := g) (a := W.alloc nd0) (Uq14 HB0.out) hb); have BK1 := Lib.hid (hb.blk (k := W.heap.size) (o := nd0) (Uq15 BK0.out) (Nat.ne_of_gt HG.out)); clear hp hb; (try clear c0 c1 c2 c3 c4 c5 c6 c7 c8 c9 z0 z1 z2 z3 z4 z5 z6 z7 z8 z9 hsz); obtain ⟨⟨c0, c1, c2, c3, c4, c5, c6, c7, c8, c9⟩, z0, z1, z2, z3, z4, z5, z6, z7, z8, z9⟩ := z10 BK1.out; have hsz : W.heap.size < w1.heap.size := blk_lt BK1.out; have HZ1 := Lib.hid hsz; obtain ⟨Au, cu, g0, g1, g2, gz, -, -⟩ := (HP1.out).cells; have hgl := HP1.out.lt) | (go_at_call 138; (fail_if_success have := HP2); (with_reducible refine (HA.out.go g _ ?sp).mono ?_); (case sp => exact (Uq12 HP1.out)); rintro e w2 ⟨rfl, hp, hb⟩; have HP2 := Lib.hid hp; have HB2 := Lib.hid (Bu.trans (g := g) (a := W.alloc nd0) (Uq14 HB1.out) hb); have BK2 := Lib.hid (hb.blk (k := W.heap.size) (o := nd0) (Uq15 BK1.out) (Nat.ne_of_gt HG.out)); clear hp hb; (try clear c0 c1 c2 c3 c4 c5 c6 c7 c8 c9 z0 z1 z2 z3 z4 z5 z6 z7 z8 z9 hsz); obtain ⟨⟨c0, c1, c2, c3, c4, c5, c6, c7, c8, c9⟩, z0, z1, z2, z3, z4, z5, z6, z7, z8, z9⟩ := z10 BK2.out; have hsz : W.heap.size < w2.heap.size := blk_lt BK2.out; have HZ2 := Lib.hid hsz) | (go_at_call 75; (with_reducible refine (sign_of g toks en _ HN.out _ _ _ _ _ _ _ HS.out ?s1 HLEN.out _ ?sp ?s2 ?s3 ?s4).mono ?_); (case sp => exact (Uq12 HP2.out)); (case s1 => decide); (case s2 => exact strC_new (by simp) rfl (by decide)); (case s3 => decide); (case s4 => rfl); rintro e w3 ⟨rfl, hp, hb⟩; have HP3 := Lib.hid hp; have HB3 := Lib.hid (Bu.trans (g := g) (a := W.alloc nd0) (Uq14 HB2.out) hb); have BK3 := Lib.hid (hb.blk (k := W.heap.size) (o := nd0) (Uq15 BK2.out) (Nat.ne_of_gt HG.out)); have BC := Lib.hid (hb.blk (k := w2.heap.size) (o := adO r c) (Uq15 BK2.out) (Nat.ne_of_gt (Nat.lt_trans HG.out HZ2.out))); clear hp hb; (try clear c0 c1 c2 c3 c4 c5 c6 c7 c8 c9 z0 z1 z2 z3 z4 z5 z6 z7 z8 z9 hsz); obtain ⟨⟨c0, c1, c2, c3, c4, c5, c6, c7, c8, c9⟩, z0, z1, z2, z3, z4, z5, z6, z7, z8, z9⟩ := z10 BK3.out; have hsz : W.heap.size < w3.heap.size := blk_lt BK3.out; have HZ3 := Lib.hid hsz; obtain ⟨⟨d0_0, d0_1⟩, -⟩ := zz2 BC.out; have hd0_ := blk_lt BC.out) | (go_at_call 138; (fail_if_success have := HP4); (with_reducible refine (HX.out.go g _ ?sp).mono ?_); (case sp => exact (Uq12 HP3.out)); rintro e w4 ⟨rfl, hp, hb⟩; have HP4 := Lib.hid hp; have HB4 := Lib.hid (Bu.trans (g := g) (a := W.alloc nd0) (Uq14 HB3.out) hb); have BK4 := Lib.hid (hb.blk (k := W.heap.size) (o := nd0) (Uq15 BK3.out) (Nat.ne_of_gt HG.out)); have BC2 := Lib.hid (hb.blk (k := w2.heap.size) (o := adO r c) (Uq15 BC.out) (Nat.ne_of_gt (Nat.lt_trans HG.out HZ2.out))); clear hp hb; (try clear c0 c1 c2 c3 c4 c5 c6 c7 c8 c9 z0 z1 z2 z3 z4 z5 z6 z7 z8 z9 hsz); obtain ⟨⟨c0, c1, c2, c3, c4, c5, c6, c7, c8, c9⟩, z0, z1, z2, z3, z4, z5, z6, z7, z8, z9⟩ := z10 BK4.out; have hsz : W.heap.size < w4.heap.size := blk_lt BK4.out; have HZ4 := Lib.hid hsz; obtain ⟨⟨d0_0, d0_1⟩, -⟩ := zz2 BC2.out; have hd0_ := blk_lt BC2.out) | (go_at_call 139; (with_reducible refine (addr_Made.calls _ _ _ _ _ _ _ _ _ _ HMD.out).mono ?_); rintro e w5 ⟨rfl, hbl⟩; have hb := Bu.of_below (g := g) hbl; have hp := PS.below (g := g) (toks := toks) (en := en) (at_ := (n3 : Int)) (Uq12 HP4.out) hbl; clear hbl; have HP5 := Lib.hid hp; have HB5 := Lib.hid (Bu.trans (g := g) (a := W.alloc nd0) (Uq14 HB4.out) hb); have BK5 := Lib.hid (hb.blk (k := W.heap.size) (o := nd0) (Uq15 BK4.out) (Nat.ne_of_gt HG.out)); clear hp hb; (try clear c0 c1 c2 c3 c4 c5 c6 c7 c8 c9 z0 z1 z2 z3 z4 z5 z6 z7 z8 z9 hsz); obtain ⟨⟨c0, c1, c2, c3, c4, c5, c6, c7, c8, c9⟩, z0, z1, z2, z3, z4, z5, z6, z7, z8, z9⟩ := z10 BK5.out; have hsz : W.heap.size < w5.heap.size := blk_lt BK5.out; have HZ5 := Lib.hid hsz))
  refine bodyPost_ret (results_ct rfl _ _ W.heap.size 31 _ (0, 0) _ rfl (by with_reducible repeat (first | exact put10_blk BK5.out _ _ _ _ _ _ _ _ _ _ | refine put10_nd ?_ _ _ _ _ _ _ _ _ _ _ | exact BK5.out | exact blk_new _ _ | refine blk_alloc ?_ _ | refine blk_drewN ?_ _ | refine blk_drew ?_ | refine blk_set ?_ (Nat.ne_of_gt HG.out) _)) hu rfl (by kernel_rfl)) rfl ?_
  refine ⟨?_, ?_, .slice none 0 0, ?_, Kd.V_nil _ _ _ _ _⟩
  · exact (Uq12 HP5.out)
  · exact (Uq13 HB5.out)
  · rfl
end Go.Proofs.YtnomfbmebafolaaGreatDoor.P

namespace Go.Proofs.YtnomfbmebafolaaGreatDoor.P
open Go.RowKit Go.Proofs.YtnomfbmebafolaaGreatDoorW.PrintWords Go.Proofs.YtnomfbmebafolaaGreatDoorW.PrintLast Go.Proofs.YtnomfbmebafolaaGreatDoorW.PrintMore
open M (fit I64 u64w dig itoaF)
set_option linter.unusedVariables false
set_option linter.unusedSimpArgs false
def cellB (r c : Int) : Bool := decide (1 ≤ r) && decide (r ≤ 1000) && decide (1 ≤ c) && decide (c ≤ 50)
theorem cellB_iff (r c : Int) : cellB r c = true ↔ (1 ≤ r ∧ r ≤ 1000 ∧ 1 ≤ c ∧ c ≤ 50) := by unfold cellB; simp [and_assoc]
theorem good_eq (r c : Int) : addr_Good.f r c = some (cellB r c) := by
  unfold addr_Good.f cellB
  by_cases h1 : r ≥ 1 <;> by_cases h2 : r ≤ 1000 <;> by_cases h3 : c ≥ 1 <;> simp [h1, h2, h3] <;> omega
def colName (c : Int) : List UInt8 := if c ≤ 26 then [UInt8.ofNat (64 + c.toNat)] else [65, UInt8.ofNat (38 + c.toNat)]
def nameS (r c : Int) : List UInt8 := if cellB r c = true then colName c ++ itoaF r else []
theorem strOfNums_one (n : Int) (h0 : 0 ≤ n) (h1 : n ≤ 255) : strOfNums [n] = ⟨[UInt8.ofNat n.toNat].toArray⟩ := by
  unfold strOfNums; simp
theorem itoa_len (a : Int) : (itoaF a).length ≤ 21 := by
  unfold itoaF
  have h1 := M.dig_length 20 a.natAbs
  have h2 := M.dig_length 20 a.toNat
  split <;> simp <;> omega
theorem bsa (l m : List UInt8) : (⟨l.toArray⟩ : ByteArray) ++ ⟨m.toArray⟩ = ⟨(l ++ m).toArray⟩ := by
  apply ByteArray.ext; simp [ByteArray.data_append]
theorem bsz (l : List UInt8) : (⟨l.toArray⟩ : ByteArray).size = l.length := rfl
theorem name_eq (r c : Int) : addr_Name.f r c = some ⟨(nameS r c).toArray⟩ := by
  unfold addr_Name.f nameS
  rw [good_eq, Option.bind_some]
  by_cases h : cellB r c = true
  · have hc := (cellB_iff r c).1 h
    have hl := itoa_len r
    rw [if_pos h, if_pos h]
    have hi : strconv_Itoa.f r = some ⟨(itoaF r).toArray⟩ := by unfold strconv_Itoa.f; rw [if_pos (by omega)]
    have hw : wrap64 (c - 1) = c - 1 := M.wrap64_id (by unfold I64; omega)
    unfold colName
    by_cases h26 : c > 26
    · have e : wrap64 (65 + Int.tmod (c - 1) 26) % 256 = 38 + c := by
        rw [Int.tmod_eq_emod_of_nonneg (by omega), M.wrap64_id (by unfold I64; omega)]; omega
      rw [if_pos h26, hw, e, Option.bind_some, strOfNums_one _ (by omega) (by omega), if_pos (by rw [bsz]; simp), hi, Option.bind_some]
      rw [show (⟨#[65]⟩ : ByteArray) = ⟨[(65 : UInt8)].toArray⟩ from rfl, bsa, bsa, if_pos (by rw [bsz, bsz]; simp; omega), show (38 + c).toNat = 38 + c.toNat by omega, if_neg (by omega)]
      rfl
    · have e : wrap64 (65 + Int.tmod (c - 1) 26) % 256 = 64 + c := by
        rw [Int.tmod_eq_emod_of_nonneg (by omega), M.wrap64_id (by unfold I64; omega)]; omega
      rw [if_neg h26, hw, e, Option.bind_some, strOfNums_one _ (by omega) (by omega), if_pos (by rw [bsz]; simp), hi, Option.bind_some]
      rw [show (⟨#[]⟩ : ByteArray) = ⟨([] : List UInt8).toArray⟩ from rfl, bsa, bsa, if_pos (by rw [bsz, bsz]; simp; omega), show (64 + c).toNat = 64 + c.toNat by omega, if_pos (by omega)]
      rfl
  · rw [if_neg h, if_neg h]
def ap : List UInt8 → Int → Int → Option (Int × Int)
  | [], row, col => some (row, col)
  | c :: r, row, col =>
    if 65 ≤ c.toNat ∧ c.toNat ≤ 90 ∧ row = 0 ∧ col ≤ 26 then ap r row (col * 26 + ((c.toNat : Int) - 65) + 1)
    else if 48 ≤ c.toNat ∧ c.toNat ≤ 57 then ap r (row * 10 + ((c.toNat : Int) - 48)) col
    else none
theorem decode_big (s : ByteArray) (i : Nat) (h : 128 ≤ (s.get! i).toNat) : 128 ≤ (Utf8.decode s i).1 ∧ (Utf8.decode s i).1 ≤ 1114111 := by
  unfold Utf8.decode
  simp only [Nat.add_zero]
  have b1 := (s.get! (i + 1)).toNat_lt
  have b2 := (s.get! (i + 2)).toNat_lt
  have b3 := (s.get! (i + 3)).toNat_lt
  have b0 := (s.get! i).toNat_lt
  rw [if_neg (by omega)]
  split
  · split
    · simp; omega
    · decide
  · split
    · split
      · rename_i hh; simp at hh; simp; omega
      · decide
    · split
      · split
        · rename_i hh; simp [Utf8.valid] at hh; simp; omega
        · decide
      · decide
end Go.Proofs.YtnomfbmebafolaaGreatDoor.P

namespace Go.Proofs.YtnomfbmebafolaaGreatDoor.P
open Go.RowKit Go.Proofs.YtnomfbmebafolaaGreatDoorW.PrintWords Go.Proofs.YtnomfbmebafolaaGreatDoorW.PrintLast Go.Proofs.YtnomfbmebafolaaGreatDoorW.PrintMore
open M (fit I64 u64w dig itoaF)
set_option linter.unusedVariables false
set_option linter.unusedSimpArgs false
def parseS (l : List UInt8) : Int × Int × Bool :=
  if 6 < l.length then (0, 0, false)
  else match ap l 0 0 with
    | none => (0, 0, false)
    | some (r, c) => if cellB r c = true ∧ nameS r c = l then (r, c, true) else (0, 0, false)
def addr_Parse.f (a0 : ByteArray) : Option (Int × Int × Bool) := if a0.size ≤ 9223372036854775807 then some (parseS a0.data.toList) else none
set_option maxRecDepth 100000 in
theorem parse_long (s : ByteArray) (hs : s.size ≤ 9223372036854775807) (h : 6 < s.size) (w : World) :
    Calls Tryz.prog 140 #[.string s] w fun e w' => e = .returned (.tuple #[.agg #[.int .i64 0, .int .i64 0], .bool false]) ∧ Below w.heap.size w w' := by
  have h6 : decide ((6 : Int) < (s.size : Int)) = true := decide_eq_true (by omega)
  have hu23 := Tryz.underlying26
  go_enter Tryz.func140, Tryz.ntmps140
  go_wp2_with fail
  refine bodyPost_ret (v := .tuple #[.agg #[.int .i64 0, .int .i64 0], .bool false]) (by simp [results, Tryz.results140, go_sem, hu23]) rfl ⟨rfl, ?_⟩
  exact ((Below.refl _ _).alloc (Nat.le_refl _) _).alloc (by simp) _
def lim : Nat → Int
  | 0 => 1
  | n + 1 => 10 * lim n
theorem lim_le (n : Nat) (h : n ≤ 6) : lim n ≤ 1000000 := by
  have : ∀ k : Fin 7, lim k.val ≤ 1000000 := by decide
  exact this ⟨n, by omega⟩
theorem lim_step (n : Nat) : lim (n + 1) = 10 * lim n := rfl
theorem far_iter {w : World} {g : Nat} {o : Obj} (h : w.heap[g]? = some o) {p : Addr} (hp : g ≠ p.block) (u : Value) : (w.setCell p u).heap[g]? = some o := (Below.heap_setCell w p u g hp).trans h
theorem iterPos_of {w : World} {k : Nat} {s : ByteArray} {p : Nat} (h : w.heap[k]? = some (.stringIter s p)) : w.iterPos k = p := by simp [World.iterPos, h]
set_option maxHeartbeats 2000000 in
set_option maxRecDepth 100000 in
theorem parse_short (s : ByteArray) (h : s.size ≤ 6) (x : Int × Int × Bool) (hx : parseS s.data.toList = x) (w : World) (hG : G1 w) :
    Calls Tryz.prog 140 #[.string s] w fun e w' => e = .returned (.tuple #[.agg #[.int .i64 x.1, .int .i64 x.2.1], .bool x.2.2]) ∧ Below w.heap.size w w' := by
  have h6 : decide ((6 : Int) < (s.size : Int)) = false := decide_eq_false (by omega)
  have hu23 := Tryz.underlying26
  have hlen : s.data.toList.length = s.size := by simp
  have HX := Lib.hid hx
  have HG := Lib.hid hG
  clear hx hG
  go_enter Tryz.func140, Tryz.ntmps140
  go_wp2_with fail
  go_loopw [6] (fun _ wr => ∃ pos : Nat, ∃ row col : Int, pos ≤ s.size ∧ 0 ≤ row ∧ row < lim pos ∧ 0 ≤ col ∧ col ≤ 702 ∧ Hid (ap (s.data.toList.drop pos) row col = ap s.data.toList 0 0) ∧
      wr.heap[w.heap.size]? = some (.cells #[.int .i64 0, .int .i64 0] 26 (0, 0)) ∧ wr.heap[w.heap.size + 1]? = some (.cells #[.int .i64 row, .int .i64 col] 26 (0, 0)) ∧ wr.heap[w.heap.size + 1 + 1]? = some (.stringIter s pos) ∧ Below w.heap.size w wr)
    (fun _ wr => s.size - wr.iterPos (w.heap.size + 1 + 1))
  case atStart =>
    refine ⟨0, 0, 0, Nat.zero_le _, by omega, by decide, by omega, by omega, Lib.hid rfl, ?_, ?_, ?_, ?_⟩
    · exact blk_alloc (blk_alloc (blk_new _ _) _) _
    · have := blk_alloc (blk_new (w.alloc (.cells #[.int .i64 0, .int .i64 0] 26)) (.cells #[.int .i64 0, .int .i64 0] 26)) (.stringIter s 0)
      simpa [World.iter] using this
    · have := World.iter_heap ((w.alloc (.cells #[.int .i64 0, .int .i64 0] 26)).alloc (.cells #[.int .i64 0, .int .i64 0] 26)) s 0
      simpa using this
    · exact (((Below.refl _ w).alloc (Nat.le_refl _) _).alloc (by simp) _).alloc (by simp; omega) _
  case round =>
    obtain ⟨pos, row, col, hps, hr0, hr1, hc0, hc1, HA, hb0, hb1, hit, hbel⟩ := hrel
    have hl6 := lim_le pos (by omega)
    by_cases hp : pos < s.size
    · have hlt : pos < s.data.toList.length := by omega
      have hdrop : s.data.toList.drop pos = s[pos]'hp :: s.data.toList.drop (pos + 1) := by
        rw [List.drop_eq_getElem_cons hlt]; rfl
      have hmu : wr.iterPos (w.heap.size + 1 + 1) = pos := by simp [World.iterPos, hit]
      by_cases h128 : 128 ≤ (s[pos]'hp).toNat
      · have hnext : ∀ ty, (Instr.next (.pointer (some ⟨w.heap.size + 1 + 1, 0, none⟩)) true ty).run Tryz.prog wr = _ := fun ty => Lib.run_next_any_at wr (w.heap.size + 1 + 1) s pos ty hit hp
        have hbig := decode_big s pos (by have e : s.get! pos = s[pos]'hp := by simp [ByteArray.get!, hp]; rfl
                                          rw [e]; exact h128)
        obtain ⟨R, hR⟩ : ∃ R : Int, ((Utf8.decode s pos).1 : Int) = R := ⟨_, rfl⟩
        have hR0 : 128 ≤ R := by omega
        have hR1 : R ≤ 1114111 := by omega
        rw [hR] at hnext
        clear hR hbig
        have o0 := Lib.iterAt_other wr (w.heap.size + 1 + 1) w.heap.size s (pos + (Utf8.decode s pos).2) (by omega)
        have o1 := Lib.iterAt_other wr (w.heap.size + 1 + 1) (w.heap.size + 1) s (pos + (Utf8.decode s pos).2) (by omega)
        have g0 := o0.trans hb0
        have g1 := o1.trans hb1
        have hit1 := Lib.iterAt_heap wr (w.heap.size + 1 + 1) s pos (pos + (Utf8.decode s pos).2) hit
        have hbel1 : Below w.heap.size w (wr.iterAt (w.heap.size + 1 + 1) s (pos + (Utf8.decode s pos).2)) := Lib.below_iterAt hbel (by omega) s _
        generalize wr.iterAt (w.heap.size + 1 + 1) s (pos + (Utf8.decode s pos).2) = W1 at hnext g0 g1 hit1 hbel1
        clear o0 o1 hb0 hb1 hit
        have G0 := Lib.hid g0
        have G1' := Lib.hid g1
        have HIT := Lib.hid hit1
        have c0 : W1.cell? ⟨w.heap.size + 1, 0, none⟩ = some (.int .i64 row) := (blk_cell g1 0).trans rfl
        have c1 : W1.cell? ⟨w.heap.size + 1, 1, none⟩ = some (.int .i64 col) := (blk_cell g1 1).trans rfl
        have f0 := blk_frozen g1 0
        have f1 := blk_frozen g1 1
        have z0 : W1.cell? ⟨w.heap.size, 0, none⟩ = some (.int .i64 0) := (blk_cell g0 0).trans rfl
        have z1 : W1.cell? ⟨w.heap.size, 1, none⟩ = some (.int .i64 0) := (blk_cell g0 1).trans rfl
        have y0 := blk_frozen g0 0
        have y1 := blk_frozen g0 1
        clear g0 g1 hit1
        have hnone : ap s.data.toList 0 0 = none := by
          rw [← HA.out, hdrop, ap, if_neg (by omega), if_neg (by omega)]
        obtain rfl : x = (0, 0, false) := by
          rw [← HX.out]; unfold parseS; rw [if_neg (by omega), hnone]
        clear hnone hdrop HA HX HG hlen hlt hps hl6
        go_wp2_with fail
        exact bodyPost_ret (v := .tuple #[.agg #[.int .i64 0, .int .i64 0], .bool false]) (by simp [results, Tryz.results140, go_sem, hu23, z0, z1]) rfl ⟨rfl, below_set (below_set hbel1 (Nat.le_refl _)) (Nat.le_refl _)⟩
      · have hnext : ∀ ty, (Instr.next (.pointer (some ⟨w.heap.size + 1 + 1, 0, none⟩)) true ty).run Tryz.prog wr = _ := fun ty => Lib.run_next_ascii_at wr (w.heap.size + 1 + 1) s pos ty hit hp (by omega)
        obtain ⟨n, hn⟩ : ∃ n : Nat, (s[pos]'hp).toNat = n := ⟨_, rfl⟩
        rw [hn] at hnext h128
        have o0 := Lib.iterAt_other wr (w.heap.size + 1 + 1) w.heap.size s (pos + 1) (by omega)
        have o1 := Lib.iterAt_other wr (w.heap.size + 1 + 1) (w.heap.size + 1) s (pos + 1) (by omega)
        have g0 := o0.trans hb0
        have g1 := o1.trans hb1
        have hit1 := Lib.iterAt_heap wr (w.heap.size + 1 + 1) s pos (pos + 1) hit
        have hbel1 : Below w.heap.size w (wr.iterAt (w.heap.size + 1 + 1) s (pos + 1)) := Lib.below_iterAt hbel (by omega) s _
        generalize wr.iterAt (w.heap.size + 1 + 1) s (pos + 1) = W1 at hnext g0 g1 hit1 hbel1
        clear o0 o1 hb0 hb1 hit
        have G0 := Lib.hid g0
        have G1' := Lib.hid g1
        have HIT := Lib.hid hit1
        have c0 : W1.cell? ⟨w.heap.size + 1, 0, none⟩ = some (.int .i64 row) := (blk_cell g1 0).trans rfl
        have c1 : W1.cell? ⟨w.heap.size + 1, 1, none⟩ = some (.int .i64 col) := (blk_cell g1 1).trans rfl
        have f0 := blk_frozen g1 0
        have f1 := blk_frozen g1 1
        have z0 : W1.cell? ⟨w.heap.size, 0, none⟩ = some (.int .i64 0) := (blk_cell g0 0).trans rfl
        have z1 : W1.cell? ⟨w.heap.size, 1, none⟩ = some (.int .i64 0) := (blk_cell g0 1).trans rfl
        have y0 := blk_frozen g0 0
        have y1 := blk_frozen g0 1
        clear g0 g1 hit1
        by_cases hL : 65 ≤ n ∧ n ≤ 90 ∧ row = 0 ∧ col ≤ 26
        · obtain ⟨l1, l2, l3, l4⟩ := hL
          have r0 : (row == 0) = true := by simpa using l3
          have hstep : ap (s.data.toList.drop (pos + 1)) row (col * 26 + ((n : Int) - 65) + 1) = ap s.data.toList 0 0 := by
            rw [← HA.out, hdrop, ap, hn, if_pos ⟨l1, l2, l3, l4⟩]
          have HS := Lib.hid hstep
          clear hstep hdrop HA hn l3
          go_wp2_with fail
          go_roundw
          case rel =>
            refine ⟨pos + 1, row, col * 26 + ((n : Int) - 65) + 1, by omega, hr0, by have := lim_step pos; omega, by omega, by omega, HS, ?_, ?_, ?_, ?_⟩
            · exact blk_far G0.out (by simp) _
            · exact blk_put G1'.out 1 _ (by simp)
            · exact far_iter HIT.out (by simp) _
            · exact below_set hbel1 (by omega)
          case measure =>
            rw [hmu, iterPos_of (far_iter HIT.out (by simp) _)]
            omega
        · by_cases hD : 48 ≤ n ∧ n ≤ 57
          · obtain ⟨l1, l2⟩ := hD
            have hstep : ap (s.data.toList.drop (pos + 1)) (row * 10 + ((n : Int) - 48)) col = ap s.data.toList 0 0 := by
              rw [← HA.out, hdrop, ap, hn, if_neg (by omega), if_pos ⟨l1, l2⟩]
            have HS := Lib.hid hstep
            clear hstep hdrop HA hn hL
            go_wp2_with fail
            go_roundw
            case rel =>
              refine ⟨pos + 1, row * 10 + ((n : Int) - 48), col, by omega, by omega, by have := lim_step pos; omega, hc0, hc1, HS, ?_, ?_, ?_, ?_⟩
              · exact blk_far G0.out (by simp) _
              · exact blk_put G1'.out 0 _ (by simp)
              · exact far_iter HIT.out (by simp) _
              · exact below_set hbel1 (by omega)
            case measure =>
              rw [hmu, iterPos_of (far_iter HIT.out (by simp) _)]
              omega
          · rw [← hn] at hL hD
            have hnone : ap s.data.toList 0 0 = none := by
              rw [← HA.out, hdrop, ap, if_neg (by omega), if_neg (by omega)]
            obtain rfl : x = (0, 0, false) := by
              rw [← HX.out]; unfold parseS; rw [if_neg (by omega), hnone]
            clear hnone hdrop HA HX HG hlen hlt hps hl6
            rw [hn] at hL hD
            have hE : n < 48 ∨ (57 < n ∧ n < 65) ∨ 90 < n ∨ (65 ≤ n ∧ n ≤ 90 ∧ row ≠ 0) ∨ (65 ≤ n ∧ n ≤ 90 ∧ row = 0 ∧ 26 < col) := by omega
            clear hL hD hn
            rcases hE with e1 | ⟨e1, e2⟩ | e1 | ⟨e1, e2, e3⟩ | ⟨e1, e2, e3, e4⟩
            · go_wp2_with fail
              exact bodyPost_ret (v := .tuple #[.agg #[.int .i64 0, .int .i64 0], .bool false]) (by simp [results, Tryz.results140, go_sem, hu23, z0, z1]) rfl ⟨rfl, below_set (below_set hbel1 (Nat.le_refl _)) (Nat.le_refl _)⟩
            · go_wp2_with fail
              exact bodyPost_ret (v := .tuple #[.agg #[.int .i64 0, .int .i64 0], .bool false]) (by simp [results, Tryz.results140, go_sem, hu23, z0, z1]) rfl ⟨rfl, below_set (below_set hbel1 (Nat.le_refl _)) (Nat.le_refl _)⟩
            · go_wp2_with fail
              exact bodyPost_ret (v := .tuple #[.agg #[.int .i64 0, .int .i64 0], .bool false]) (by simp [results, Tryz.results140, go_sem, hu23, z0, z1]) rfl ⟨rfl, below_set (below_set hbel1 (Nat.le_refl _)) (Nat.le_refl _)⟩
            · have r0 : (row == 0) = false := by simpa using e3
              clear e3
              go_wp2_with fail
              exact bodyPost_ret (v := .tuple #[.agg #[.int .i64 0, .int .i64 0], .bool false]) (by simp [results, Tryz.results140, go_sem, hu23, z0, z1]) rfl ⟨rfl, below_set (below_set hbel1 (Nat.le_refl _)) (Nat.le_refl _)⟩
            · have r0 : (row == 0) = true := by simpa using e3
              clear e3
              go_wp2_with fail
              exact bodyPost_ret (v := .tuple #[.agg #[.int .i64 0, .int .i64 0], .bool false]) (by simp [results, Tryz.results140, go_sem, hu23, z0, z1]) rfl ⟨rfl, below_set (below_set hbel1 (Nat.le_refl _)) (Nat.le_refl _)⟩
    · have he : pos = s.size := by omega
      have hnext : ∀ ty, (Instr.next (.pointer (some ⟨w.heap.size + 1 + 1, 0, none⟩)) true ty).run Tryz.prog wr = _ := fun ty => Lib.run_next_end_at wr (w.heap.size + 1 + 1) s pos ty hit hp
      have hap : ap s.data.toList 0 0 = some (row, col) := by
        rw [← HA.out, List.drop_of_length_le (by omega)]; rfl
      have hxx : x = if cellB row col = true ∧ nameS row col = s.data.toList then (row, col, true) else (0, 0, false) := by
        rw [← HX.out]; unfold parseS; rw [if_neg (by omega), hap]
      have B0 := Lib.hid hb0
      have B1 := Lib.hid hb1
      have HBEL := Lib.hid hbel
      have c0 : wr.cell? ⟨w.heap.size + 1, 0, none⟩ = some (.int .i64 row) := (blk_cell hb1 0).trans rfl
      have c1 : wr.cell? ⟨w.heap.size + 1, 1, none⟩ = some (.int .i64 col) := (blk_cell hb1 1).trans rfl
      have f0 := blk_frozen (hb1) 0
      have f1 := blk_frozen (hb1) 1
      have z0 : wr.cell? ⟨w.heap.size, 0, none⟩ = some (.int .i64 0) := (blk_cell hb0 0).trans rfl
      have z1 : wr.cell? ⟨w.heap.size, 1, none⟩ = some (.int .i64 0) := (blk_cell hb0 1).trans rfl
      have y0 := blk_frozen (hb0) 0
      have y1 := blk_frozen (hb0) 1
      clear HA HX hap hlen hps hl6 hb0 hb1 hbel he hp hit
      cases hcb : cellB row col
      · rw [hcb, if_neg (by simp)] at hxx
        subst hxx
        have HGD := Lib.hid (good_eq row col)
        rw [hcb] at HGD
        clear hcb
        go_wp2_with (go_at_call 48; (with_reducible refine (addr_Good.calls row col false _ HGD.out).mono ?_); rintro e w1 ⟨rfl, hbb1⟩; have d0 := Lib.hid (blk_below B0.out hbb1); have d1 := Lib.hid (blk_below B1.out hbb1); have c0a : w1.cell? ⟨w.heap.size + 1, 0, none⟩ = some (.int .i64 row) := (blk_cell d1.out 0).trans rfl; have c1a : w1.cell? ⟨w.heap.size + 1, 1, none⟩ = some (.int .i64 col) := (blk_cell d1.out 1).trans rfl; have f0a := blk_frozen (d1.out) 0; have f1a := blk_frozen (d1.out) 1; have z0a : w1.cell? ⟨w.heap.size, 0, none⟩ = some (.int .i64 0) := (blk_cell d0.out 0).trans rfl; have z1a : w1.cell? ⟨w.heap.size, 1, none⟩ = some (.int .i64 0) := (blk_cell d0.out 1).trans rfl; have y0a := blk_frozen (d0.out) 0; have y1a := blk_frozen (d0.out) 1)
        exact bodyPost_ret (v := .tuple #[.agg #[.int .i64 0, .int .i64 0], .bool false]) (by simp [results, Tryz.results140, go_sem, hu23, z0a, z1a]) rfl ⟨rfl, below_set (below_set (HBEL.out.trans (hbb1.mono HBEL.out.size)) (Nat.le_refl _)) (Nat.le_refl _)⟩
      · have HGD := Lib.hid (good_eq row col)
        rw [hcb] at HGD
        by_cases hnm : nameS row col = s.data.toList
        · rw [hcb, if_pos ⟨rfl, hnm⟩] at hxx
          subst hxx
          have hq : (!(nameS row col == s.toList)) = false := by rw [ByteArray.toList_eq]; simp [hnm]
          clear hcb hnm
          go_wp2_with (first | (go_at_call 48; (with_reducible refine (addr_Good.calls row col true _ HGD.out).mono ?_); rintro e w1 ⟨rfl, hbb1⟩; have d0 := Lib.hid (blk_below B0.out hbb1); have d1 := Lib.hid (blk_below B1.out hbb1); have c0a : w1.cell? ⟨w.heap.size + 1, 0, none⟩ = some (.int .i64 row) := (blk_cell d1.out 0).trans rfl; have c1a : w1.cell? ⟨w.heap.size + 1, 1, none⟩ = some (.int .i64 col) := (blk_cell d1.out 1).trans rfl; have f0a := blk_frozen (d1.out) 0; have f1a := blk_frozen (d1.out) 1; have z0a : w1.cell? ⟨w.heap.size, 0, none⟩ = some (.int .i64 0) := (blk_cell d0.out 0).trans rfl; have z1a : w1.cell? ⟨w.heap.size, 1, none⟩ = some (.int .i64 0) := (blk_cell d0.out 1).trans rfl; have y0a := blk_frozen (d0.out) 0; have y1a := blk_frozen (d0.out) 1) | (go_at_call 29; (with_reducible refine (addr_Name.calls row col _ _ (gl_1_1 (HBEL.out.trans (hbb1.mono HBEL.out.size)) HG.out) (name_eq row col)).mono ?_); rintro e w2 ⟨rfl, hbb2⟩; have e0 := Lib.hid (blk_below d0.out hbb2); have e1 := Lib.hid (blk_below d1.out hbb2); have c0b : w2.cell? ⟨w.heap.size + 1, 0, none⟩ = some (.int .i64 row) := (blk_cell e1.out 0).trans rfl; have c1b : w2.cell? ⟨w.heap.size + 1, 1, none⟩ = some (.int .i64 col) := (blk_cell e1.out 1).trans rfl; have f0b := blk_frozen (e1.out) 0; have f1b := blk_frozen (e1.out) 1; have z0b : w2.cell? ⟨w.heap.size, 0, none⟩ = some (.int .i64 0) := (blk_cell e0.out 0).trans rfl; have z1b : w2.cell? ⟨w.heap.size, 1, none⟩ = some (.int .i64 0) := (blk_cell e0.out 1).trans rfl; have y0b := blk_frozen (e0.out) 0; have y1b := blk_frozen (e0.out) 1))
          exact bodyPost_ret (v := .tuple #[.agg #[.int .i64 row, .int .i64 col], .bool true]) (by simp [results, Tryz.results140, go_sem, hu23, z0b, z1b]) rfl ⟨rfl, below_set (below_set ((HBEL.out.trans (hbb1.mono HBEL.out.size)).trans (hbb2.mono (HBEL.out.trans (hbb1.mono HBEL.out.size)).size)) (Nat.le_refl _)) (Nat.le_refl _)⟩
        · rw [hcb, if_neg (fun hh => hnm hh.2)] at hxx
          subst hxx
          have hq : (!(nameS row col == s.toList)) = true := by rw [ByteArray.toList_eq]; simp [hnm]
          clear hcb hnm
          go_wp2_with (first | (go_at_call 48; (with_reducible refine (addr_Good.calls row col true _ HGD.out).mono ?_); rintro e w1 ⟨rfl, hbb1⟩; have d0 := Lib.hid (blk_below B0.out hbb1); have d1 := Lib.hid (blk_below B1.out hbb1); have c0a : w1.cell? ⟨w.heap.size + 1, 0, none⟩ = some (.int .i64 row) := (blk_cell d1.out 0).trans rfl; have c1a : w1.cell? ⟨w.heap.size + 1, 1, none⟩ = some (.int .i64 col) := (blk_cell d1.out 1).trans rfl; have f0a := blk_frozen (d1.out) 0; have f1a := blk_frozen (d1.out) 1; have z0a : w1.cell? ⟨w.heap.size, 0, none⟩ = some (.int .i64 0) := (blk_cell d0.out 0).trans rfl; have z1a : w1.cell? ⟨w.heap.size, 1, none⟩ = some (.int .i64 0) := (blk_cell d0.out 1).trans rfl; have y0a := blk_frozen (d0.out) 0; have y1a := blk_frozen (d0.out) 1) | (go_at_call 29; (with_reducible refine (addr_Name.calls row col _ _ (gl_1_1 (HBEL.out.trans (hbb1.mono HBEL.out.size)) HG.out) (name_eq row col)).mono ?_); rintro e w2 ⟨rfl, hbb2⟩; have e0 := Lib.hid (blk_below d0.out hbb2); have e1 := Lib.hid (blk_below d1.out hbb2); have c0b : w2.cell? ⟨w.heap.size + 1, 0, none⟩ = some (.int .i64 row) := (blk_cell e1.out 0).trans rfl; have c1b : w2.cell? ⟨w.heap.size + 1, 1, none⟩ = some (.int .i64 col) := (blk_cell e1.out 1).trans rfl; have f0b := blk_frozen (e1.out) 0; have f1b := blk_frozen (e1.out) 1; have z0b : w2.cell? ⟨w.heap.size, 0, none⟩ = some (.int .i64 0) := (blk_cell e0.out 0).trans rfl; have z1b : w2.cell? ⟨w.heap.size, 1, none⟩ = some (.int .i64 0) := (blk_cell e0.out 1).trans rfl; have y0b := blk_frozen (e0.out) 0; have y1b := blk_frozen (e0.out) 1))
          exact bodyPost_ret (v := .tuple #[.agg #[.int .i64 0, .int .i64 0], .bool false]) (by simp [results, Tryz.results140, go_sem, hu23, z0b, z1b]) rfl ⟨rfl, below_set (below_set ((HBEL.out.trans (hbb1.mono HBEL.out.size)).trans (hbb2.mono (HBEL.out.trans (hbb1.mono HBEL.out.size)).size)) (Nat.le_refl _)) (Nat.le_refl _)⟩
theorem addr_Parse.calls (a0 : ByteArray) (r1 : Int) (r2 : Int) (r3 : Bool) (w : World) (hG : G1 w) (h : addr_Parse.f a0 = some (r1, r2, r3)) :
    Calls Tryz.prog 140 #[.string a0] w fun e w' => e = .returned (.tuple #[.agg #[.int .i64 r1, .int .i64 r2], .bool r3]) ∧ Below w.heap.size w w' := by
  unfold addr_Parse.f at h
  have hlen : a0.data.toList.length = a0.size := by simp
  split at h
  · rename_i hs
    have h := Option.some.inj h
    by_cases h6 : 6 < a0.size
    · have hx : parseS a0.data.toList = (0, 0, false) := by unfold parseS; rw [if_pos (by omega)]
      rw [hx] at h
      simp only [Prod.mk.injEq] at h
      obtain ⟨rfl, rfl, rfl⟩ := h
      exact parse_long a0 hs h6 w
    · exact parse_short a0 (by omega) (r1, r2, r3) h w hG
  · cases h
end Go.Proofs.YtnomfbmebafolaaGreatDoor.P
