/- Contracts of the functions that the law reaches, each with the plain function that it comes to, and plain facts about these. -/
import Derived.Test.YtmdmpafdpgdpoaaGreatDoorBFO2
import Derived.Test.YtmdmpafdpgdpoaaGreatDoorBFO3
namespace Go.Proofs.YtmdmpafdpgdpoaaGreatDoor.P
open Go.RowKit Go.Proofs.YtmdmpafdpgdpoaaGreatDoorW.PrintWords Go.Proofs.YtmdmpafdpgdpoaaGreatDoorW.PrintLast Go.Proofs.YtmdmpafdpgdpoaaGreatDoorW.PrintMore
set_option linter.unusedVariables false
set_option linter.unusedSimpArgs false
def fullV (l : List S26) : List S26 := l.filter fun x => !(x.f0 == 0)
def intsV (l : List S26) : List S26 := l.filter fun x => !(x.f0 != 2)
abbrev R3 : Type := Int × Int × ByteArray
def yes3 (o : Option R3) : Option (Int × Int × ByteArray × Bool) := o.bind fun t => some (t.1, t.2.1, t.2.2, true)
def ofF (name : List UInt8) (m : List S26) : Option (Int × Int × ByteArray × Bool) :=
  if name = [83, 85, 77] then yes3 ((fold_sum.f m).bind fun t => fold_told.f t.1 t.2.1 t.2.2.1 t.2.2.2) else
  if name = [80, 82, 79, 68, 85, 67, 84] then yes3 ((numbersF (fun a b _ => num_Mul.f 100 a b) m 1 0).bind fun t => fold_told.f t.1 t.2.1 t.2.2.1 t.2.2.2) else
  if name = [77, 73, 78] then yes3 (bestF (fun a b => decide (a < b)) m) else
  if name = [77, 65, 88] then yes3 (bestF (fun a b => decide (b < a)) m) else
  if name = [65, 86, 71] then yes3 (fold_mean.f m) else
  if name = [65, 78, 68] then yes3 (fold_flags.f (m.length + 10) m true) else
  if name = [79, 82] then yes3 (fold_flags.f (m.length + 10) m false) else
  if name = [74, 79, 73, 78] then yes3 (fold_joined.f (m.length + 10) m) else
  if name = [67, 79, 85, 78, 84] then yes3 (fold_whole.f ((intsV m).length : Int)) else
  if name = [67, 79, 85, 78, 84, 65] then yes3 (fold_whole.f (m.length : Int)) else
  some (0, 0, ⟨#[]⟩, false)
def fold_Of.f (a0 : ByteArray) (l : List S26) : Option (Int × Int × ByteArray × Bool) := if l.length < 4398046511104 then ofF a0.toList (fullV l) else none
theorem pred_full : PredA 14 (fun x => x.f0 == 0) := by
  intro W x
  go_enter Tryz.func14, Tryz.ntmps14
  go_wp2
  go_ret
  exact ⟨rfl, below_alloc (Below.refl _ W) _⟩
theorem pred_ints : PredA 26 (fun x => x.f0 != 2) := by
  intro W x
  go_enter Tryz.func26, Tryz.ntmps26
  go_wp2
  go_ret
  exact ⟨rfl, below_alloc (Below.refl _ W) _⟩
theorem eg_full : ∀ args w, (callFunc 14 args).run Tryz.prog w = .ok (.enter 14 args) w := enters_of Tryz.func14 (by kernel_rfl) rfl
theorem eg_ints : ∀ args w, (callFunc 26 args).run Tryz.prog w = .ok (.enter 26 args) w := enters_of Tryz.func26 (by kernel_rfl) rfl
theorem eg_less : ∀ args w, (callFunc 21 args).run Tryz.prog w = .ok (.enter 21 args) w := enters_of Tryz.func21 (by kernel_rfl) rfl
theorem eg_more : ∀ args w, (callFunc 22 args).run Tryz.prog w = .ok (.enter 22 args) w := enters_of Tryz.func22 (by kernel_rfl) rfl
theorem eg_mul : ∀ args w, (callFunc 18 args).run Tryz.prog w = .ok (.enter 18 args) w := enters_of Tryz.func18 (by kernel_rfl) rfl
theorem step_mul (w : World) : StepB 18 #[] (fun a b _ => num_Mul.f 100 a b) w := by
  intro W n b i r1 r2 _ h
  have HH := Lib.hid h
  clear h
  show Calls Tryz.prog 18 #[.int .i64 n, .int .i64 b, .int .i64 i] W _
  go_enter Tryz.func18, Tryz.ntmps18
  go_wp2_with (go_at_call 19; (with_reducible refine (num_Mul.calls _ _ _ _ _ _ HH.out).mono ?_); rintro e w2 ⟨rfl, hb2⟩)
  go_ret2
  exact ⟨rfl, hb2.below⟩
structure Begun (w : World) (l : List S26) (A : Option Addr) (c : Nat) (w2 : World) : Prop where
  own : w2.ownsRow (w.heap.size + 1) 26 3 (.slice A (fullV l).length c) (fullV l).length (flatV (fullV l))
  reads : Kd.C k26 w2 A (fullV l).length (fullV l)
  cap : (fullV l).length ≤ c
  below : Below w.heap.size w w2
  blk : w2.heap[w.heap.size]? = some (.cells #[.int .i64 0, .int .i64 0, .string ⟨#[]⟩] 26 (0, 0))
theorem begun {w w1 w2 : World} {l : List S26} {v1 v2 : Value} (ho1 : w1.ownsRow (w.alloc (.cells #[.int .i64 0, .int .i64 0, .string ⟨#[]⟩] 26)).heap.size 26 3 v1 l.length (flatV l)) (hb1 : Below (w.alloc (.cells #[.int .i64 0, .int .i64 0, .string ⟨#[]⟩] 26)).heap.size (w.alloc (.cells #[.int .i64 0, .int .i64 0, .string ⟨#[]⟩] 26)) w1)
    (ho2 : w2.ownsRow (w.alloc (.cells #[.int .i64 0, .int .i64 0, .string ⟨#[]⟩] 26)).heap.size 26 3 v2 (fullV l).length (flatV (fullV l))) (hg : w1.grownBy w2 v1.ownBlock) : ∃ A c, v2 = .slice A (fullV l).length c ∧ Begun w l A c w2 := by
  have hs : (w.alloc (.cells #[.int .i64 0, .int .i64 0, .string ⟨#[]⟩] 26)).heap.size = w.heap.size + 1 := by simp
  obtain ⟨A, c, rfl, hle, hC⟩ := C_of_own ho2
  rw [hs] at ho1 ho2
  have hz := hb1.size
  rw [hs] at hz
  have hk := blk_below (blk_new w _) hb1
  refine ⟨A, c, rfl, ho2, hC, hle, ?_, ?_⟩
  · exact pw_below_grown (below_step (below_alloc (Below.refl _ w) _) hb1) _ (by omega) hg (fun k hk => by have := own_base ho1 k hk; omega)
  · exact (hg.block _ (blk_lt hk) (fun e => by have := own_base ho1 _ e.symm; omega)).trans hk
theorem full_le (l : List S26) : (fullV l).length ≤ l.length := List.length_filter_le _ _
theorem eqb_true {a b : List UInt8} (h : a = b) : (a == b) = true := beq_iff_eq.2 h
theorem eqb_false {a b : List UInt8} (h : ¬ a = b) : (a == b) = false := beq_eq_false_iff_ne.2 h
theorem count_blk {w w2 w3 : World} {l : List S26} {A : Option Addr} {c : Nat} (h : Begun w l A c w2) (hg : w2.grownBy w3 (Value.slice A (fullV l).length c).ownBlock) : w3.heap[w.heap.size]? = some (.cells #[.int .i64 0, .int .i64 0, .string ⟨#[]⟩] 26 (0, 0)) :=
  (hg.block _ (blk_lt h.blk) (fun e => by have := own_base h.own _ e.symm; omega)).trans h.blk
theorem count_below {w w2 w3 : World} {l : List S26} {A : Option Addr} {c : Nat} (h : Begun w l A c w2) (hg : w2.grownBy w3 (Value.slice A (fullV l).length c).ownBlock) : Below w.heap.size w w3 :=
  pw_below_grown h.below _ h.below.size hg (fun k hk => by have := own_base h.own k hk; omega)
set_option maxHeartbeats 2000000 in
set_option maxRecDepth 100000 in
theorem of_SUM (a0 : ByteArray) (A1 : Option Addr) (c1 : Nat) (l : List S26) (r1 r2 : Int) (r3 : ByteArray) (r4 : Bool) (w : World) (hr1 : Kd.C k26 w A1 l.length l) (hc1 : l.length ≤ c1) (hlt : l.length < 4398046511104) (hG : G2 w) (h0 : a0.toList = [83, 85, 77]) (h : yes3 ((fold_sum.f (fullV l)).bind fun t => fold_told.f t.1 t.2.1 t.2.2.1 t.2.2.2) = some (r1, r2, r3, r4)) :
    Calls Tryz.prog 6 #[.string a0, .slice A1 l.length c1] w fun e w' => e = .returned (.tuple #[.agg #[.int .i64 r1, .int .i64 r2, .string r3], .bool r4]) ∧ Below w.heap.size w w' := by
  have hu23 := Tryz.underlying26
  unfold yes3 at h
  obtain ⟨⟨t1, t2, t3⟩, hq, h'⟩ := Option.bind_eq_some_iff.1 h
  clear h
  simp only [Option.some.injEq, Prod.mk.injEq] at h'
  obtain ⟨rfl, rfl, rfl, rfl⟩ := h'
  have h := hq
  clear hq
  have hlen := full_le l
  have hlen1 : (l.length : Int) < 4398046511104 := by omega
  have hC := clone_any A1 c1 l (w.alloc (.cells #[.int .i64 0, .int .i64 0, .string ⟨#[]⟩] 26)) hc1 (by omega) (Kd.C_below hr1 ((Below.refl _ w).alloc (Nat.le_refl _) _))
  have HC := Lib.hid hC
  have HG := Lib.hid hG
  clear hC hr1 hG
  obtain ⟨⟨u1, u2, u3, u4⟩, hn, hh⟩ := Option.bind_eq_some_iff.1 h
  have HN := Lib.hid hn
  have HH := Lib.hid hh
  clear hn hh h
  have e0 := eqb_true h0
  clear h0
  have tok1 : True := trivial
  go_enter Tryz.func6, Tryz.ntmps6
  go_wp2_with (first | (go_at_call 13; (with_reducible refine HC.out.mono ?_); rintro e w1 ⟨v1, rfl, ho1, hb1⟩; have HO1 := Lib.hid ho1; clear ho1) | (go_at_call 12; have _t := tok1; (with_reducible refine (delete_any 14 (fun x => x.f0 == 0) eg_full pred_full _ v1 l w1 HO1.out).mono ?_); rintro e w2 ⟨v2, rfl, ho2, -, hg2⟩; obtain ⟨A2, c2, rfl, hB⟩ := begun HO1.out hb1 ho2 hg2; have HB := Lib.hid hB; clear hB ho2 hg2 tok1) | (go_at_call 16; (with_reducible refine (fold_sum.calls _ _ _ _ _ _ _ _ HB.out.reads HB.out.cap (gl_2_2 HB.out.below HG.out) HN.out).mono ?_); rintro e w3 ⟨rfl, hb3⟩; have K3 := Lib.hid (blk_below HB.out.blk hb3); have HE3 := Lib.hid (below_step HB.out.below hb3)) | (go_at_call 15; (with_reducible refine (fold_told.calls _ _ _ _ _ _ _ _ HH.out).mono ?_); rintro e w4 ⟨rfl, hb4⟩; have K := Lib.hid (blk_below K3.out hb4); have HE := Lib.hid (below_step HE3.out hb4); have x_0 : w4.cell? ⟨w.heap.size, 0, none⟩ = some (.int .i64 0) := (blk_cell K.out 0).trans rfl; have x_1 : w4.cell? ⟨w.heap.size, 1, none⟩ = some (.int .i64 0) := (blk_cell K.out 1).trans rfl; have x_2 : w4.cell? ⟨w.heap.size, 2, none⟩ = some (.string ⟨#[]⟩) := (blk_cell K.out 2).trans rfl; have z_0 := blk_frozen K.out 0; have z_1 := blk_frozen K.out 1; have z_2 := blk_frozen K.out 2; have hs_ := blk_lt K.out))
  refine bodyPost_ret (results_ct rfl _ _ w.heap.size 26 _ (0, 0) _ rfl (blk_put (blk_put (blk_put K.out 0 _ rfl) 1 _ rfl) 2 _ rfl) Tryz.underlying26 rfl (by kernel_rfl)) rfl ?_
  exact ⟨rfl, below_set (below_set (below_set HE.out (Nat.le_refl _)) (Nat.le_refl _)) (Nat.le_refl _)⟩
set_option maxHeartbeats 2000000 in
set_option maxRecDepth 100000 in
theorem of_PRODUCT (a0 : ByteArray) (A1 : Option Addr) (c1 : Nat) (l : List S26) (r1 r2 : Int) (r3 : ByteArray) (r4 : Bool) (w : World) (hr1 : Kd.C k26 w A1 l.length l) (hc1 : l.length ≤ c1) (hlt : l.length < 4398046511104) (hG : G2 w) (h0 : ¬ a0.toList = [83, 85, 77]) (h1 : a0.toList = [80, 82, 79, 68, 85, 67, 84]) (h : yes3 ((numbersF (fun a b _ => num_Mul.f 100 a b) (fullV l) 1 0).bind fun t => fold_told.f t.1 t.2.1 t.2.2.1 t.2.2.2) = some (r1, r2, r3, r4)) :
    Calls Tryz.prog 6 #[.string a0, .slice A1 l.length c1] w fun e w' => e = .returned (.tuple #[.agg #[.int .i64 r1, .int .i64 r2, .string r3], .bool r4]) ∧ Below w.heap.size w w' := by
  have hu23 := Tryz.underlying26
  unfold yes3 at h
  obtain ⟨⟨t1, t2, t3⟩, hq, h'⟩ := Option.bind_eq_some_iff.1 h
  clear h
  simp only [Option.some.injEq, Prod.mk.injEq] at h'
  obtain ⟨rfl, rfl, rfl, rfl⟩ := h'
  have h := hq
  clear hq
  have hlen := full_le l
  have hlen1 : (l.length : Int) < 4398046511104 := by omega
  have hC := clone_any A1 c1 l (w.alloc (.cells #[.int .i64 0, .int .i64 0, .string ⟨#[]⟩] 26)) hc1 (by omega) (Kd.C_below hr1 ((Below.refl _ w).alloc (Nat.le_refl _) _))
  have HC := Lib.hid hC
  have HG := Lib.hid hG
  clear hC hr1 hG
  obtain ⟨⟨u1, u2, u3, u4⟩, hn, hh⟩ := Option.bind_eq_some_iff.1 h
  have HN := Lib.hid hn
  have HH := Lib.hid hh
  clear hn hh h
  have e0 := eqb_false h0
  have e1 := eqb_true h1
  clear h0 h1
  have tok1 : True := trivial
  go_enter Tryz.func6, Tryz.ntmps6
  go_wp2_with (first | (go_at_call 13; (with_reducible refine HC.out.mono ?_); rintro e w1 ⟨v1, rfl, ho1, hb1⟩; have HO1 := Lib.hid ho1; clear ho1) | (go_at_call 12; have _t := tok1; (with_reducible refine (delete_any 14 (fun x => x.f0 == 0) eg_full pred_full _ v1 l w1 HO1.out).mono ?_); rintro e w2 ⟨v2, rfl, ho2, -, hg2⟩; obtain ⟨A2, c2, rfl, hB⟩ := begun HO1.out hb1 ho2 hg2; have HB := Lib.hid hB; clear hB ho2 hg2 tok1) | (go_at_call 17; (with_reducible refine (numbers_any 18 #[] _ eg_mul _ _ _ _ _ (step_mul _) HB.out.reads (gl_2_2 HB.out.below HG.out) _ _ _ _ HN.out).mono ?_); rintro e w3 ⟨rfl, hb3⟩; have K3 := Lib.hid (blk_below HB.out.blk hb3); have HE3 := Lib.hid (below_step HB.out.below hb3)) | (go_at_call 15; (with_reducible refine (fold_told.calls _ _ _ _ _ _ _ _ HH.out).mono ?_); rintro e w4 ⟨rfl, hb4⟩; have K := Lib.hid (blk_below K3.out hb4); have HE := Lib.hid (below_step HE3.out hb4); have x_0 : w4.cell? ⟨w.heap.size, 0, none⟩ = some (.int .i64 0) := (blk_cell K.out 0).trans rfl; have x_1 : w4.cell? ⟨w.heap.size, 1, none⟩ = some (.int .i64 0) := (blk_cell K.out 1).trans rfl; have x_2 : w4.cell? ⟨w.heap.size, 2, none⟩ = some (.string ⟨#[]⟩) := (blk_cell K.out 2).trans rfl; have z_0 := blk_frozen K.out 0; have z_1 := blk_frozen K.out 1; have z_2 := blk_frozen K.out 2; have hs_ := blk_lt K.out))
  refine bodyPost_ret (results_ct rfl _ _ w.heap.size 26 _ (0, 0) _ rfl (blk_put (blk_put (blk_put K.out 0 _ rfl) 1 _ rfl) 2 _ rfl) Tryz.underlying26 rfl (by kernel_rfl)) rfl ?_
  exact ⟨rfl, below_set (below_set (below_set HE.out (Nat.le_refl _)) (Nat.le_refl _)) (Nat.le_refl _)⟩
set_option maxHeartbeats 2000000 in
set_option maxRecDepth 100000 in
theorem of_MIN (a0 : ByteArray) (A1 : Option Addr) (c1 : Nat) (l : List S26) (r1 r2 : Int) (r3 : ByteArray) (r4 : Bool) (w : World) (hr1 : Kd.C k26 w A1 l.length l) (hc1 : l.length ≤ c1) (hlt : l.length < 4398046511104) (hG : G2 w) (h0 : ¬ a0.toList = [83, 85, 77]) (h1 : ¬ a0.toList = [80, 82, 79, 68, 85, 67, 84]) (h2 : a0.toList = [77, 73, 78]) (h : yes3 (bestF (fun a b => decide (a < b)) (fullV l)) = some (r1, r2, r3, r4)) :
    Calls Tryz.prog 6 #[.string a0, .slice A1 l.length c1] w fun e w' => e = .returned (.tuple #[.agg #[.int .i64 r1, .int .i64 r2, .string r3], .bool r4]) ∧ Below w.heap.size w w' := by
  have hu23 := Tryz.underlying26
  unfold yes3 at h
  obtain ⟨⟨t1, t2, t3⟩, hq, h'⟩ := Option.bind_eq_some_iff.1 h
  clear h
  simp only [Option.some.injEq, Prod.mk.injEq] at h'
  obtain ⟨rfl, rfl, rfl, rfl⟩ := h'
  have h := hq
  clear hq
  have hlen := full_le l
  have hlen1 : (l.length : Int) < 4398046511104 := by omega
  have hC := clone_any A1 c1 l (w.alloc (.cells #[.int .i64 0, .int .i64 0, .string ⟨#[]⟩] 26)) hc1 (by omega) (Kd.C_below hr1 ((Below.refl _ w).alloc (Nat.le_refl _) _))
  have HC := Lib.hid hC
  have HG := Lib.hid hG
  clear hC hr1 hG
  have HH := Lib.hid h
  clear h
  have e0 := eqb_false h0
  have e1 := eqb_false h1
  have e2 := eqb_true h2
  clear h0 h1 h2
  have tok1 : True := trivial
  go_enter Tryz.func6, Tryz.ntmps6
  go_wp2_with (first | (go_at_call 13; (with_reducible refine HC.out.mono ?_); rintro e w1 ⟨v1, rfl, ho1, hb1⟩; have HO1 := Lib.hid ho1; clear ho1) | (go_at_call 12; have _t := tok1; (with_reducible refine (delete_any 14 (fun x => x.f0 == 0) eg_full pred_full _ v1 l w1 HO1.out).mono ?_); rintro e w2 ⟨v2, rfl, ho2, -, hg2⟩; obtain ⟨A2, c2, rfl, hB⟩ := begun HO1.out hb1 ho2 hg2; have HB := Lib.hid hB; clear hB ho2 hg2 tok1) | (go_at_call 20; (with_reducible refine (best_any 21 _ eg_less better_less _ _ _ _ _ _ _ HB.out.reads (gl_2_2 HB.out.below HG.out) HH.out).mono ?_); rintro e w4 ⟨rfl, hb4⟩; have K := Lib.hid (blk_below HB.out.blk hb4); have HE := Lib.hid (below_step HB.out.below hb4); have x_0 : w4.cell? ⟨w.heap.size, 0, none⟩ = some (.int .i64 0) := (blk_cell K.out 0).trans rfl; have x_1 : w4.cell? ⟨w.heap.size, 1, none⟩ = some (.int .i64 0) := (blk_cell K.out 1).trans rfl; have x_2 : w4.cell? ⟨w.heap.size, 2, none⟩ = some (.string ⟨#[]⟩) := (blk_cell K.out 2).trans rfl; have z_0 := blk_frozen K.out 0; have z_1 := blk_frozen K.out 1; have z_2 := blk_frozen K.out 2; have hs_ := blk_lt K.out))
  refine bodyPost_ret (results_ct rfl _ _ w.heap.size 26 _ (0, 0) _ rfl (blk_put (blk_put (blk_put K.out 0 _ rfl) 1 _ rfl) 2 _ rfl) Tryz.underlying26 rfl (by kernel_rfl)) rfl ?_
  exact ⟨rfl, below_set (below_set (below_set HE.out (Nat.le_refl _)) (Nat.le_refl _)) (Nat.le_refl _)⟩
set_option maxHeartbeats 2000000 in
set_option maxRecDepth 100000 in
theorem of_MAX (a0 : ByteArray) (A1 : Option Addr) (c1 : Nat) (l : List S26) (r1 r2 : Int) (r3 : ByteArray) (r4 : Bool) (w : World) (hr1 : Kd.C k26 w A1 l.length l) (hc1 : l.length ≤ c1) (hlt : l.length < 4398046511104) (hG : G2 w) (h0 : ¬ a0.toList = [83, 85, 77]) (h1 : ¬ a0.toList = [80, 82, 79, 68, 85, 67, 84]) (h2 : ¬ a0.toList = [77, 73, 78]) (h3 : a0.toList = [77, 65, 88]) (h : yes3 (bestF (fun a b => decide (b < a)) (fullV l)) = some (r1, r2, r3, r4)) :
    Calls Tryz.prog 6 #[.string a0, .slice A1 l.length c1] w fun e w' => e = .returned (.tuple #[.agg #[.int .i64 r1, .int .i64 r2, .string r3], .bool r4]) ∧ Below w.heap.size w w' := by
  have hu23 := Tryz.underlying26
  unfold yes3 at h
  obtain ⟨⟨t1, t2, t3⟩, hq, h'⟩ := Option.bind_eq_some_iff.1 h
  clear h
  simp only [Option.some.injEq, Prod.mk.injEq] at h'
  obtain ⟨rfl, rfl, rfl, rfl⟩ := h'
  have h := hq
  clear hq
  have hlen := full_le l
  have hlen1 : (l.length : Int) < 4398046511104 := by omega
  have hC := clone_any A1 c1 l (w.alloc (.cells #[.int .i64 0, .int .i64 0, .string ⟨#[]⟩] 26)) hc1 (by omega) (Kd.C_below hr1 ((Below.refl _ w).alloc (Nat.le_refl _) _))
  have HC := Lib.hid hC
  have HG := Lib.hid hG
  clear hC hr1 hG
  have HH := Lib.hid h
  clear h
  have e0 := eqb_false h0
  have e1 := eqb_false h1
  have e2 := eqb_false h2
  have e3 := eqb_true h3
  clear h0 h1 h2 h3
  have tok1 : True := trivial
  go_enter Tryz.func6, Tryz.ntmps6
  go_wp2_with (first | (go_at_call 13; (with_reducible refine HC.out.mono ?_); rintro e w1 ⟨v1, rfl, ho1, hb1⟩; have HO1 := Lib.hid ho1; clear ho1) | (go_at_call 12; have _t := tok1; (with_reducible refine (delete_any 14 (fun x => x.f0 == 0) eg_full pred_full _ v1 l w1 HO1.out).mono ?_); rintro e w2 ⟨v2, rfl, ho2, -, hg2⟩; obtain ⟨A2, c2, rfl, hB⟩ := begun HO1.out hb1 ho2 hg2; have HB := Lib.hid hB; clear hB ho2 hg2 tok1) | (go_at_call 20; (with_reducible refine (best_any 22 _ eg_more better_more _ _ _ _ _ _ _ HB.out.reads (gl_2_2 HB.out.below HG.out) HH.out).mono ?_); rintro e w4 ⟨rfl, hb4⟩; have K := Lib.hid (blk_below HB.out.blk hb4); have HE := Lib.hid (below_step HB.out.below hb4); have x_0 : w4.cell? ⟨w.heap.size, 0, none⟩ = some (.int .i64 0) := (blk_cell K.out 0).trans rfl; have x_1 : w4.cell? ⟨w.heap.size, 1, none⟩ = some (.int .i64 0) := (blk_cell K.out 1).trans rfl; have x_2 : w4.cell? ⟨w.heap.size, 2, none⟩ = some (.string ⟨#[]⟩) := (blk_cell K.out 2).trans rfl; have z_0 := blk_frozen K.out 0; have z_1 := blk_frozen K.out 1; have z_2 := blk_frozen K.out 2; have hs_ := blk_lt K.out))
  refine bodyPost_ret (results_ct rfl _ _ w.heap.size 26 _ (0, 0) _ rfl (blk_put (blk_put (blk_put K.out 0 _ rfl) 1 _ rfl) 2 _ rfl) Tryz.underlying26 rfl (by kernel_rfl)) rfl ?_
  exact ⟨rfl, below_set (below_set (below_set HE.out (Nat.le_refl _)) (Nat.le_refl _)) (Nat.le_refl _)⟩
set_option maxHeartbeats 2000000 in
set_option maxRecDepth 100000 in
theorem of_AVG (a0 : ByteArray) (A1 : Option Addr) (c1 : Nat) (l : List S26) (r1 r2 : Int) (r3 : ByteArray) (r4 : Bool) (w : World) (hr1 : Kd.C k26 w A1 l.length l) (hc1 : l.length ≤ c1) (hlt : l.length < 4398046511104) (hG : G2 w) (h0 : ¬ a0.toList = [83, 85, 77]) (h1 : ¬ a0.toList = [80, 82, 79, 68, 85, 67, 84]) (h2 : ¬ a0.toList = [77, 73, 78]) (h3 : ¬ a0.toList = [77, 65, 88]) (h4 : a0.toList = [65, 86, 71]) (h : yes3 (fold_mean.f (fullV l)) = some (r1, r2, r3, r4)) :
    Calls Tryz.prog 6 #[.string a0, .slice A1 l.length c1] w fun e w' => e = .returned (.tuple #[.agg #[.int .i64 r1, .int .i64 r2, .string r3], .bool r4]) ∧ Below w.heap.size w w' := by
  have hu23 := Tryz.underlying26
  unfold yes3 at h
  obtain ⟨⟨t1, t2, t3⟩, hq, h'⟩ := Option.bind_eq_some_iff.1 h
  clear h
  simp only [Option.some.injEq, Prod.mk.injEq] at h'
  obtain ⟨rfl, rfl, rfl, rfl⟩ := h'
  have h := hq
  clear hq
  have hlen := full_le l
  have hlen1 : (l.length : Int) < 4398046511104 := by omega
  have hC := clone_any A1 c1 l (w.alloc (.cells #[.int .i64 0, .int .i64 0, .string ⟨#[]⟩] 26)) hc1 (by omega) (Kd.C_below hr1 ((Below.refl _ w).alloc (Nat.le_refl _) _))
  have HC := Lib.hid hC
  have HG := Lib.hid hG
  clear hC hr1 hG
  have HH := Lib.hid h
  clear h
  have e0 := eqb_false h0
  have e1 := eqb_false h1
  have e2 := eqb_false h2
  have e3 := eqb_false h3
  have e4 := eqb_true h4
  clear h0 h1 h2 h3 h4
  have tok1 : True := trivial
  go_enter Tryz.func6, Tryz.ntmps6
  go_wp2_with (first | (go_at_call 13; (with_reducible refine HC.out.mono ?_); rintro e w1 ⟨v1, rfl, ho1, hb1⟩; have HO1 := Lib.hid ho1; clear ho1) | (go_at_call 12; have _t := tok1; (with_reducible refine (delete_any 14 (fun x => x.f0 == 0) eg_full pred_full _ v1 l w1 HO1.out).mono ?_); rintro e w2 ⟨v2, rfl, ho2, -, hg2⟩; obtain ⟨A2, c2, rfl, hB⟩ := begun HO1.out hb1 ho2 hg2; have HB := Lib.hid hB; clear hB ho2 hg2 tok1) | (go_at_call 23; (with_reducible refine (fold_mean.calls _ _ _ _ _ _ _ HB.out.reads HB.out.cap (gl_2_2 HB.out.below HG.out) HH.out).mono ?_); rintro e w4 ⟨rfl, hb4⟩; have K := Lib.hid (blk_below HB.out.blk hb4); have HE := Lib.hid (below_step HB.out.below hb4); have x_0 : w4.cell? ⟨w.heap.size, 0, none⟩ = some (.int .i64 0) := (blk_cell K.out 0).trans rfl; have x_1 : w4.cell? ⟨w.heap.size, 1, none⟩ = some (.int .i64 0) := (blk_cell K.out 1).trans rfl; have x_2 : w4.cell? ⟨w.heap.size, 2, none⟩ = some (.string ⟨#[]⟩) := (blk_cell K.out 2).trans rfl; have z_0 := blk_frozen K.out 0; have z_1 := blk_frozen K.out 1; have z_2 := blk_frozen K.out 2; have hs_ := blk_lt K.out))
  refine bodyPost_ret (results_ct rfl _ _ w.heap.size 26 _ (0, 0) _ rfl (blk_put (blk_put (blk_put K.out 0 _ rfl) 1 _ rfl) 2 _ rfl) Tryz.underlying26 rfl (by kernel_rfl)) rfl ?_
  exact ⟨rfl, below_set (below_set (below_set HE.out (Nat.le_refl _)) (Nat.le_refl _)) (Nat.le_refl _)⟩
set_option maxHeartbeats 2000000 in
set_option maxRecDepth 100000 in
theorem of_AND (a0 : ByteArray) (A1 : Option Addr) (c1 : Nat) (l : List S26) (r1 r2 : Int) (r3 : ByteArray) (r4 : Bool) (w : World) (hr1 : Kd.C k26 w A1 l.length l) (hc1 : l.length ≤ c1) (hlt : l.length < 4398046511104) (hG : G2 w) (h0 : ¬ a0.toList = [83, 85, 77]) (h1 : ¬ a0.toList = [80, 82, 79, 68, 85, 67, 84]) (h2 : ¬ a0.toList = [77, 73, 78]) (h3 : ¬ a0.toList = [77, 65, 88]) (h4 : ¬ a0.toList = [65, 86, 71]) (h5 : a0.toList = [65, 78, 68]) (h : yes3 (fold_flags.f ((fullV l).length + 10) (fullV l) true) = some (r1, r2, r3, r4)) :
    Calls Tryz.prog 6 #[.string a0, .slice A1 l.length c1] w fun e w' => e = .returned (.tuple #[.agg #[.int .i64 r1, .int .i64 r2, .string r3], .bool r4]) ∧ Below w.heap.size w w' := by
  have hu23 := Tryz.underlying26
  unfold yes3 at h
  obtain ⟨⟨t1, t2, t3⟩, hq, h'⟩ := Option.bind_eq_some_iff.1 h
  clear h
  simp only [Option.some.injEq, Prod.mk.injEq] at h'
  obtain ⟨rfl, rfl, rfl, rfl⟩ := h'
  have h := hq
  clear hq
  have hlen := full_le l
  have hlen1 : (l.length : Int) < 4398046511104 := by omega
  have hC := clone_any A1 c1 l (w.alloc (.cells #[.int .i64 0, .int .i64 0, .string ⟨#[]⟩] 26)) hc1 (by omega) (Kd.C_below hr1 ((Below.refl _ w).alloc (Nat.le_refl _) _))
  have HC := Lib.hid hC
  have HG := Lib.hid hG
  clear hC hr1 hG
  have HH := Lib.hid h
  clear h
  have e0 := eqb_false h0
  have e1 := eqb_false h1
  have e2 := eqb_false h2
  have e3 := eqb_false h3
  have e4 := eqb_false h4
  have e5 := eqb_true h5
  clear h0 h1 h2 h3 h4 h5
  have tok1 : True := trivial
  go_enter Tryz.func6, Tryz.ntmps6
  go_wp2_with (first | (go_at_call 13; (with_reducible refine HC.out.mono ?_); rintro e w1 ⟨v1, rfl, ho1, hb1⟩; have HO1 := Lib.hid ho1; clear ho1) | (go_at_call 12; have _t := tok1; (with_reducible refine (delete_any 14 (fun x => x.f0 == 0) eg_full pred_full _ v1 l w1 HO1.out).mono ?_); rintro e w2 ⟨v2, rfl, ho2, -, hg2⟩; obtain ⟨A2, c2, rfl, hB⟩ := begun HO1.out hb1 ho2 hg2; have HB := Lib.hid hB; clear hB ho2 hg2 tok1) | (go_at_call 24; (with_reducible refine (fold_flags.calls _ _ _ _ _ _ _ _ _ HB.out.reads HB.out.cap HH.out).mono ?_); rintro e w4 ⟨rfl, hb4⟩; have K := Lib.hid (blk_below HB.out.blk hb4); have HE := Lib.hid (below_step HB.out.below hb4); have x_0 : w4.cell? ⟨w.heap.size, 0, none⟩ = some (.int .i64 0) := (blk_cell K.out 0).trans rfl; have x_1 : w4.cell? ⟨w.heap.size, 1, none⟩ = some (.int .i64 0) := (blk_cell K.out 1).trans rfl; have x_2 : w4.cell? ⟨w.heap.size, 2, none⟩ = some (.string ⟨#[]⟩) := (blk_cell K.out 2).trans rfl; have z_0 := blk_frozen K.out 0; have z_1 := blk_frozen K.out 1; have z_2 := blk_frozen K.out 2; have hs_ := blk_lt K.out))
  refine bodyPost_ret (results_ct rfl _ _ w.heap.size 26 _ (0, 0) _ rfl (blk_put (blk_put (blk_put K.out 0 _ rfl) 1 _ rfl) 2 _ rfl) Tryz.underlying26 rfl (by kernel_rfl)) rfl ?_
  exact ⟨rfl, below_set (below_set (below_set HE.out (Nat.le_refl _)) (Nat.le_refl _)) (Nat.le_refl _)⟩
set_option maxHeartbeats 2000000 in
set_option maxRecDepth 100000 in
theorem of_OR (a0 : ByteArray) (A1 : Option Addr) (c1 : Nat) (l : List S26) (r1 r2 : Int) (r3 : ByteArray) (r4 : Bool) (w : World) (hr1 : Kd.C k26 w A1 l.length l) (hc1 : l.length ≤ c1) (hlt : l.length < 4398046511104) (hG : G2 w) (h0 : ¬ a0.toList = [83, 85, 77]) (h1 : ¬ a0.toList = [80, 82, 79, 68, 85, 67, 84]) (h2 : ¬ a0.toList = [77, 73, 78]) (h3 : ¬ a0.toList = [77, 65, 88]) (h4 : ¬ a0.toList = [65, 86, 71]) (h5 : ¬ a0.toList = [65, 78, 68]) (h6 : a0.toList = [79, 82]) (h : yes3 (fold_flags.f ((fullV l).length + 10) (fullV l) false) = some (r1, r2, r3, r4)) :
    Calls Tryz.prog 6 #[.string a0, .slice A1 l.length c1] w fun e w' => e = .returned (.tuple #[.agg #[.int .i64 r1, .int .i64 r2, .string r3], .bool r4]) ∧ Below w.heap.size w w' := by
  have hu23 := Tryz.underlying26
  unfold yes3 at h
  obtain ⟨⟨t1, t2, t3⟩, hq, h'⟩ := Option.bind_eq_some_iff.1 h
  clear h
  simp only [Option.some.injEq, Prod.mk.injEq] at h'
  obtain ⟨rfl, rfl, rfl, rfl⟩ := h'
  have h := hq
  clear hq
  have hlen := full_le l
  have hlen1 : (l.length : Int) < 4398046511104 := by omega
  have hC := clone_any A1 c1 l (w.alloc (.cells #[.int .i64 0, .int .i64 0, .string ⟨#[]⟩] 26)) hc1 (by omega) (Kd.C_below hr1 ((Below.refl _ w).alloc (Nat.le_refl _) _))
  have HC := Lib.hid hC
  have HG := Lib.hid hG
  clear hC hr1 hG
  have HH := Lib.hid h
  clear h
  have e0 := eqb_false h0
  have e1 := eqb_false h1
  have e2 := eqb_false h2
  have e3 := eqb_false h3
  have e4 := eqb_false h4
  have e5 := eqb_false h5
  have e6 := eqb_true h6
  clear h0 h1 h2 h3 h4 h5 h6
  have tok1 : True := trivial
  go_enter Tryz.func6, Tryz.ntmps6
  go_wp2_with (first | (go_at_call 13; (with_reducible refine HC.out.mono ?_); rintro e w1 ⟨v1, rfl, ho1, hb1⟩; have HO1 := Lib.hid ho1; clear ho1) | (go_at_call 12; have _t := tok1; (with_reducible refine (delete_any 14 (fun x => x.f0 == 0) eg_full pred_full _ v1 l w1 HO1.out).mono ?_); rintro e w2 ⟨v2, rfl, ho2, -, hg2⟩; obtain ⟨A2, c2, rfl, hB⟩ := begun HO1.out hb1 ho2 hg2; have HB := Lib.hid hB; clear hB ho2 hg2 tok1) | (go_at_call 24; (with_reducible refine (fold_flags.calls _ _ _ _ _ _ _ _ _ HB.out.reads HB.out.cap HH.out).mono ?_); rintro e w4 ⟨rfl, hb4⟩; have K := Lib.hid (blk_below HB.out.blk hb4); have HE := Lib.hid (below_step HB.out.below hb4); have x_0 : w4.cell? ⟨w.heap.size, 0, none⟩ = some (.int .i64 0) := (blk_cell K.out 0).trans rfl; have x_1 : w4.cell? ⟨w.heap.size, 1, none⟩ = some (.int .i64 0) := (blk_cell K.out 1).trans rfl; have x_2 : w4.cell? ⟨w.heap.size, 2, none⟩ = some (.string ⟨#[]⟩) := (blk_cell K.out 2).trans rfl; have z_0 := blk_frozen K.out 0; have z_1 := blk_frozen K.out 1; have z_2 := blk_frozen K.out 2; have hs_ := blk_lt K.out))
  refine bodyPost_ret (results_ct rfl _ _ w.heap.size 26 _ (0, 0) _ rfl (blk_put (blk_put (blk_put K.out 0 _ rfl) 1 _ rfl) 2 _ rfl) Tryz.underlying26 rfl (by kernel_rfl)) rfl ?_
  exact ⟨rfl, below_set (below_set (below_set HE.out (Nat.le_refl _)) (Nat.le_refl _)) (Nat.le_refl _)⟩
set_option maxHeartbeats 2000000 in
set_option maxRecDepth 100000 in
theorem of_JOIN (a0 : ByteArray) (A1 : Option Addr) (c1 : Nat) (l : List S26) (r1 r2 : Int) (r3 : ByteArray) (r4 : Bool) (w : World) (hr1 : Kd.C k26 w A1 l.length l) (hc1 : l.length ≤ c1) (hlt : l.length < 4398046511104) (hG : G2 w) (h0 : ¬ a0.toList = [83, 85, 77]) (h1 : ¬ a0.toList = [80, 82, 79, 68, 85, 67, 84]) (h2 : ¬ a0.toList = [77, 73, 78]) (h3 : ¬ a0.toList = [77, 65, 88]) (h4 : ¬ a0.toList = [65, 86, 71]) (h5 : ¬ a0.toList = [65, 78, 68]) (h6 : ¬ a0.toList = [79, 82]) (h7 : a0.toList = [74, 79, 73, 78]) (h : yes3 (fold_joined.f ((fullV l).length + 10) (fullV l)) = some (r1, r2, r3, r4)) :
    Calls Tryz.prog 6 #[.string a0, .slice A1 l.length c1] w fun e w' => e = .returned (.tuple #[.agg #[.int .i64 r1, .int .i64 r2, .string r3], .bool r4]) ∧ Below w.heap.size w w' := by
  have hu23 := Tryz.underlying26
  unfold yes3 at h
  obtain ⟨⟨t1, t2, t3⟩, hq, h'⟩ := Option.bind_eq_some_iff.1 h
  clear h
  simp only [Option.some.injEq, Prod.mk.injEq] at h'
  obtain ⟨rfl, rfl, rfl, rfl⟩ := h'
  have h := hq
  clear hq
  have hlen := full_le l
  have hlen1 : (l.length : Int) < 4398046511104 := by omega
  have hC := clone_any A1 c1 l (w.alloc (.cells #[.int .i64 0, .int .i64 0, .string ⟨#[]⟩] 26)) hc1 (by omega) (Kd.C_below hr1 ((Below.refl _ w).alloc (Nat.le_refl _) _))
  have HC := Lib.hid hC
  have HG := Lib.hid hG
  clear hC hr1 hG
  have HH := Lib.hid h
  clear h
  have e0 := eqb_false h0
  have e1 := eqb_false h1
  have e2 := eqb_false h2
  have e3 := eqb_false h3
  have e4 := eqb_false h4
  have e5 := eqb_false h5
  have e6 := eqb_false h6
  have e7 := eqb_true h7
  clear h0 h1 h2 h3 h4 h5 h6 h7
  have tok1 : True := trivial
  go_enter Tryz.func6, Tryz.ntmps6
  go_wp2_with (first | (go_at_call 13; (with_reducible refine HC.out.mono ?_); rintro e w1 ⟨v1, rfl, ho1, hb1⟩; have HO1 := Lib.hid ho1; clear ho1) | (go_at_call 12; have _t := tok1; (with_reducible refine (delete_any 14 (fun x => x.f0 == 0) eg_full pred_full _ v1 l w1 HO1.out).mono ?_); rintro e w2 ⟨v2, rfl, ho2, -, hg2⟩; obtain ⟨A2, c2, rfl, hB⟩ := begun HO1.out hb1 ho2 hg2; have HB := Lib.hid hB; clear hB ho2 hg2 tok1) | (go_at_call 25; (with_reducible refine (fold_joined.calls _ _ _ _ _ _ _ _ HB.out.reads HB.out.cap (gl_2_1 HB.out.below HG.out) HH.out).mono ?_); rintro e w4 ⟨rfl, hb4⟩; have K := Lib.hid (blk_below HB.out.blk hb4); have HE := Lib.hid (below_step HB.out.below hb4); have x_0 : w4.cell? ⟨w.heap.size, 0, none⟩ = some (.int .i64 0) := (blk_cell K.out 0).trans rfl; have x_1 : w4.cell? ⟨w.heap.size, 1, none⟩ = some (.int .i64 0) := (blk_cell K.out 1).trans rfl; have x_2 : w4.cell? ⟨w.heap.size, 2, none⟩ = some (.string ⟨#[]⟩) := (blk_cell K.out 2).trans rfl; have z_0 := blk_frozen K.out 0; have z_1 := blk_frozen K.out 1; have z_2 := blk_frozen K.out 2; have hs_ := blk_lt K.out))
  refine bodyPost_ret (results_ct rfl _ _ w.heap.size 26 _ (0, 0) _ rfl (blk_put (blk_put (blk_put K.out 0 _ rfl) 1 _ rfl) 2 _ rfl) Tryz.underlying26 rfl (by kernel_rfl)) rfl ?_
  exact ⟨rfl, below_set (below_set (below_set HE.out (Nat.le_refl _)) (Nat.le_refl _)) (Nat.le_refl _)⟩
set_option maxHeartbeats 2000000 in
set_option maxRecDepth 100000 in
theorem of_COUNT (a0 : ByteArray) (A1 : Option Addr) (c1 : Nat) (l : List S26) (r1 r2 : Int) (r3 : ByteArray) (r4 : Bool) (w : World) (hr1 : Kd.C k26 w A1 l.length l) (hc1 : l.length ≤ c1) (hlt : l.length < 4398046511104) (hG : G2 w) (h0 : ¬ a0.toList = [83, 85, 77]) (h1 : ¬ a0.toList = [80, 82, 79, 68, 85, 67, 84]) (h2 : ¬ a0.toList = [77, 73, 78]) (h3 : ¬ a0.toList = [77, 65, 88]) (h4 : ¬ a0.toList = [65, 86, 71]) (h5 : ¬ a0.toList = [65, 78, 68]) (h6 : ¬ a0.toList = [79, 82]) (h7 : ¬ a0.toList = [74, 79, 73, 78]) (h8 : a0.toList = [67, 79, 85, 78, 84]) (h : yes3 (fold_whole.f ((intsV (fullV l)).length : Int)) = some (r1, r2, r3, r4)) :
    Calls Tryz.prog 6 #[.string a0, .slice A1 l.length c1] w fun e w' => e = .returned (.tuple #[.agg #[.int .i64 r1, .int .i64 r2, .string r3], .bool r4]) ∧ Below w.heap.size w w' := by
  have hu23 := Tryz.underlying26
  unfold yes3 at h
  obtain ⟨⟨t1, t2, t3⟩, hq, h'⟩ := Option.bind_eq_some_iff.1 h
  clear h
  simp only [Option.some.injEq, Prod.mk.injEq] at h'
  obtain ⟨rfl, rfl, rfl, rfl⟩ := h'
  have h := hq
  clear hq
  have hlen := full_le l
  have hlen1 : (l.length : Int) < 4398046511104 := by omega
  have hC := clone_any A1 c1 l (w.alloc (.cells #[.int .i64 0, .int .i64 0, .string ⟨#[]⟩] 26)) hc1 (by omega) (Kd.C_below hr1 ((Below.refl _ w).alloc (Nat.le_refl _) _))
  have HC := Lib.hid hC
  have HG := Lib.hid hG
  clear hC hr1 hG
  have HH := Lib.hid (show fold_whole.f ((((fullV l).filter fun x => !(x.f0 != 2)).length : Nat) : Int) = some (t1, t2, t3) from h)
  clear h
  have e0 := eqb_false h0
  have e1 := eqb_false h1
  have e2 := eqb_false h2
  have e3 := eqb_false h3
  have e4 := eqb_false h4
  have e5 := eqb_false h5
  have e6 := eqb_false h6
  have e7 := eqb_false h7
  have e8 := eqb_true h8
  clear h0 h1 h2 h3 h4 h5 h6 h7 h8
  have tok1 : True := trivial
  go_enter Tryz.func6, Tryz.ntmps6
  go_wp2_with (first | (go_at_call 13; (with_reducible refine HC.out.mono ?_); rintro e w1 ⟨v1, rfl, ho1, hb1⟩; have HO1 := Lib.hid ho1; clear ho1) | (go_at_call 12; have _t := tok1; (with_reducible refine (delete_any 14 (fun x => x.f0 == 0) eg_full pred_full _ v1 l w1 HO1.out).mono ?_); rintro e w2 ⟨v2, rfl, ho2, -, hg2⟩; obtain ⟨A2, c2, rfl, hB⟩ := begun HO1.out hb1 ho2 hg2; have HB := Lib.hid hB; clear hB ho2 hg2 tok1) | (go_at_call 12; (with_reducible refine (delete_any 26 (fun x => x.f0 != 2) eg_ints pred_ints _ _ (fullV l) w2 HB.out.own).mono ?_); rintro e w3 ⟨v3, rfl, ho3, -, hg3⟩; obtain ⟨A3, c3, rfl, hle3, hC3⟩ := C_of_own ho3; have K3 := Lib.hid (count_blk HB.out hg3); have HE3 := Lib.hid (count_below HB.out hg3); clear ho3 hg3 hC3) | (go_at_call 27; (with_reducible refine (fold_whole.calls _ _ _ _ _ HH.out).mono ?_); rintro e w4 ⟨rfl, hb4⟩; have K := Lib.hid (blk_below K3.out hb4); have HE := Lib.hid (below_step HE3.out hb4); have x_0 : w4.cell? ⟨w.heap.size, 0, none⟩ = some (.int .i64 0) := (blk_cell K.out 0).trans rfl; have x_1 : w4.cell? ⟨w.heap.size, 1, none⟩ = some (.int .i64 0) := (blk_cell K.out 1).trans rfl; have x_2 : w4.cell? ⟨w.heap.size, 2, none⟩ = some (.string ⟨#[]⟩) := (blk_cell K.out 2).trans rfl; have z_0 := blk_frozen K.out 0; have z_1 := blk_frozen K.out 1; have z_2 := blk_frozen K.out 2; have hs_ := blk_lt K.out))
  refine bodyPost_ret (results_ct rfl _ _ w.heap.size 26 _ (0, 0) _ rfl (blk_put (blk_put (blk_put K.out 0 _ rfl) 1 _ rfl) 2 _ rfl) Tryz.underlying26 rfl (by kernel_rfl)) rfl ?_
  exact ⟨rfl, below_set (below_set (below_set HE.out (Nat.le_refl _)) (Nat.le_refl _)) (Nat.le_refl _)⟩
set_option maxHeartbeats 2000000 in
set_option maxRecDepth 100000 in
theorem of_COUNTA (a0 : ByteArray) (A1 : Option Addr) (c1 : Nat) (l : List S26) (r1 r2 : Int) (r3 : ByteArray) (r4 : Bool) (w : World) (hr1 : Kd.C k26 w A1 l.length l) (hc1 : l.length ≤ c1) (hlt : l.length < 4398046511104) (hG : G2 w) (h0 : ¬ a0.toList = [83, 85, 77]) (h1 : ¬ a0.toList = [80, 82, 79, 68, 85, 67, 84]) (h2 : ¬ a0.toList = [77, 73, 78]) (h3 : ¬ a0.toList = [77, 65, 88]) (h4 : ¬ a0.toList = [65, 86, 71]) (h5 : ¬ a0.toList = [65, 78, 68]) (h6 : ¬ a0.toList = [79, 82]) (h7 : ¬ a0.toList = [74, 79, 73, 78]) (h8 : ¬ a0.toList = [67, 79, 85, 78, 84]) (h9 : a0.toList = [67, 79, 85, 78, 84, 65]) (h : yes3 (fold_whole.f ((fullV l).length : Int)) = some (r1, r2, r3, r4)) :
    Calls Tryz.prog 6 #[.string a0, .slice A1 l.length c1] w fun e w' => e = .returned (.tuple #[.agg #[.int .i64 r1, .int .i64 r2, .string r3], .bool r4]) ∧ Below w.heap.size w w' := by
  have hu23 := Tryz.underlying26
  unfold yes3 at h
  obtain ⟨⟨t1, t2, t3⟩, hq, h'⟩ := Option.bind_eq_some_iff.1 h
  clear h
  simp only [Option.some.injEq, Prod.mk.injEq] at h'
  obtain ⟨rfl, rfl, rfl, rfl⟩ := h'
  have h := hq
  clear hq
  have hlen := full_le l
  have hlen1 : (l.length : Int) < 4398046511104 := by omega
  have hC := clone_any A1 c1 l (w.alloc (.cells #[.int .i64 0, .int .i64 0, .string ⟨#[]⟩] 26)) hc1 (by omega) (Kd.C_below hr1 ((Below.refl _ w).alloc (Nat.le_refl _) _))
  have HC := Lib.hid hC
  have HG := Lib.hid hG
  clear hC hr1 hG
  have HH := Lib.hid h
  clear h
  have e0 := eqb_false h0
  have e1 := eqb_false h1
  have e2 := eqb_false h2
  have e3 := eqb_false h3
  have e4 := eqb_false h4
  have e5 := eqb_false h5
  have e6 := eqb_false h6
  have e7 := eqb_false h7
  have e8 := eqb_false h8
  have e9 := eqb_true h9
  clear h0 h1 h2 h3 h4 h5 h6 h7 h8 h9
  have tok1 : True := trivial
  go_enter Tryz.func6, Tryz.ntmps6
  go_wp2_with (first | (go_at_call 13; (with_reducible refine HC.out.mono ?_); rintro e w1 ⟨v1, rfl, ho1, hb1⟩; have HO1 := Lib.hid ho1; clear ho1) | (go_at_call 12; have _t := tok1; (with_reducible refine (delete_any 14 (fun x => x.f0 == 0) eg_full pred_full _ v1 l w1 HO1.out).mono ?_); rintro e w2 ⟨v2, rfl, ho2, -, hg2⟩; obtain ⟨A2, c2, rfl, hB⟩ := begun HO1.out hb1 ho2 hg2; have HB := Lib.hid hB; clear hB ho2 hg2 tok1) | (go_at_call 27; (with_reducible refine (fold_whole.calls _ _ _ _ _ HH.out).mono ?_); rintro e w4 ⟨rfl, hb4⟩; have K := Lib.hid (blk_below HB.out.blk hb4); have HE := Lib.hid (below_step HB.out.below hb4); have x_0 : w4.cell? ⟨w.heap.size, 0, none⟩ = some (.int .i64 0) := (blk_cell K.out 0).trans rfl; have x_1 : w4.cell? ⟨w.heap.size, 1, none⟩ = some (.int .i64 0) := (blk_cell K.out 1).trans rfl; have x_2 : w4.cell? ⟨w.heap.size, 2, none⟩ = some (.string ⟨#[]⟩) := (blk_cell K.out 2).trans rfl; have z_0 := blk_frozen K.out 0; have z_1 := blk_frozen K.out 1; have z_2 := blk_frozen K.out 2; have hs_ := blk_lt K.out))
  refine bodyPost_ret (results_ct rfl _ _ w.heap.size 26 _ (0, 0) _ rfl (blk_put (blk_put (blk_put K.out 0 _ rfl) 1 _ rfl) 2 _ rfl) Tryz.underlying26 rfl (by kernel_rfl)) rfl ?_
  exact ⟨rfl, below_set (below_set (below_set HE.out (Nat.le_refl _)) (Nat.le_refl _)) (Nat.le_refl _)⟩
set_option maxHeartbeats 2000000 in
set_option maxRecDepth 100000 in
theorem of_none (a0 : ByteArray) (A1 : Option Addr) (c1 : Nat) (l : List S26) (w : World) (hr1 : Kd.C k26 w A1 l.length l) (hc1 : l.length ≤ c1) (hlt : l.length < 4398046511104) (hG : G2 w) (h0 : ¬ a0.toList = [83, 85, 77]) (h1 : ¬ a0.toList = [80, 82, 79, 68, 85, 67, 84]) (h2 : ¬ a0.toList = [77, 73, 78]) (h3 : ¬ a0.toList = [77, 65, 88]) (h4 : ¬ a0.toList = [65, 86, 71]) (h5 : ¬ a0.toList = [65, 78, 68]) (h6 : ¬ a0.toList = [79, 82]) (h7 : ¬ a0.toList = [74, 79, 73, 78]) (h8 : ¬ a0.toList = [67, 79, 85, 78, 84]) (h9 : ¬ a0.toList = [67, 79, 85, 78, 84, 65]) :
    Calls Tryz.prog 6 #[.string a0, .slice A1 l.length c1] w fun e w' => e = .returned (.tuple #[.agg #[.int .i64 0, .int .i64 0, .string ⟨#[]⟩], .bool false]) ∧ Below w.heap.size w w' := by
  have hu23 := Tryz.underlying26
  have hC := clone_any A1 c1 l (w.alloc (.cells #[.int .i64 0, .int .i64 0, .string ⟨#[]⟩] 26)) hc1 (by omega) (Kd.C_below hr1 ((Below.refl _ w).alloc (Nat.le_refl _) _))
  have HC := Lib.hid hC
  have HG := Lib.hid hG
  clear hC hr1 hG
  have e0 := eqb_false h0
  have e1 := eqb_false h1
  have e2 := eqb_false h2
  have e3 := eqb_false h3
  have e4 := eqb_false h4
  have e5 := eqb_false h5
  have e6 := eqb_false h6
  have e7 := eqb_false h7
  have e8 := eqb_false h8
  have e9 := eqb_false h9
  clear h0 h1 h2 h3 h4 h5 h6 h7 h8 h9
  have tok1 : True := trivial
  go_enter Tryz.func6, Tryz.ntmps6
  go_wp2_with (first | (go_at_call 13; (with_reducible refine HC.out.mono ?_); rintro e w1 ⟨v1, rfl, ho1, hb1⟩; have HO1 := Lib.hid ho1; clear ho1) | (go_at_call 12; have _t := tok1; (with_reducible refine (delete_any 14 (fun x => x.f0 == 0) eg_full pred_full _ v1 l w1 HO1.out).mono ?_); rintro e w2 ⟨v2, rfl, ho2, -, hg2⟩; obtain ⟨A2, c2, rfl, hB⟩ := begun HO1.out hb1 ho2 hg2; have HB := Lib.hid hB; have K := Lib.hid hB.blk; have HE := Lib.hid hB.below; clear hB ho2 hg2 tok1; have x_0 : w2.cell? ⟨w.heap.size, 0, none⟩ = some (.int .i64 0) := (blk_cell K.out 0).trans rfl; have x_1 : w2.cell? ⟨w.heap.size, 1, none⟩ = some (.int .i64 0) := (blk_cell K.out 1).trans rfl; have x_2 : w2.cell? ⟨w.heap.size, 2, none⟩ = some (.string ⟨#[]⟩) := (blk_cell K.out 2).trans rfl; have z_0 := blk_frozen K.out 0; have z_1 := blk_frozen K.out 1; have z_2 := blk_frozen K.out 2; have hs_ := blk_lt K.out))
  refine bodyPost_ret (results_ct rfl _ _ w.heap.size 26 _ (0, 0) _ rfl (blk_put (blk_put (blk_put K.out 0 _ rfl) 1 _ rfl) 2 _ rfl) Tryz.underlying26 rfl (by kernel_rfl)) rfl ?_
  exact ⟨rfl, below_set (below_set (below_set HE.out (Nat.le_refl _)) (Nat.le_refl _)) (Nat.le_refl _)⟩
theorem fold_Of.calls (a0 : ByteArray) (A1 : Option Addr) (c1 : Nat) (l1 : List S26) (r1 r2 : Int) (r3 : ByteArray) (r4 : Bool) (w : World) (hr1 : Kd.C k26 w A1 l1.length l1) (hc1 : l1.length ≤ c1) (hG : G2 w) (h : fold_Of.f a0 l1 = some (r1, r2, r3, r4)) :
    Calls Tryz.prog 6 #[.string a0, .slice A1 l1.length c1] w fun e w' => e = .returned (.tuple #[.agg #[.int .i64 r1, .int .i64 r2, .string r3], .bool r4]) ∧ Below w.heap.size w w' := by
  unfold fold_Of.f at h
  split at h
  · rename_i hlt
    unfold ofF at h
    by_cases h0 : a0.toList = [83, 85, 77]
    · rw [if_pos h0] at h; exact of_SUM a0 A1 c1 l1 r1 r2 r3 r4 w hr1 hc1 hlt hG h0 h
    rw [if_neg h0] at h
    by_cases h1 : a0.toList = [80, 82, 79, 68, 85, 67, 84]
    · rw [if_pos h1] at h; exact of_PRODUCT a0 A1 c1 l1 r1 r2 r3 r4 w hr1 hc1 hlt hG h0 h1 h
    rw [if_neg h1] at h
    by_cases h2 : a0.toList = [77, 73, 78]
    · rw [if_pos h2] at h; exact of_MIN a0 A1 c1 l1 r1 r2 r3 r4 w hr1 hc1 hlt hG h0 h1 h2 h
    rw [if_neg h2] at h
    by_cases h3 : a0.toList = [77, 65, 88]
    · rw [if_pos h3] at h; exact of_MAX a0 A1 c1 l1 r1 r2 r3 r4 w hr1 hc1 hlt hG h0 h1 h2 h3 h
    rw [if_neg h3] at h
    by_cases h4 : a0.toList = [65, 86, 71]
    · rw [if_pos h4] at h; exact of_AVG a0 A1 c1 l1 r1 r2 r3 r4 w hr1 hc1 hlt hG h0 h1 h2 h3 h4 h
    rw [if_neg h4] at h
    by_cases h5 : a0.toList = [65, 78, 68]
    · rw [if_pos h5] at h; exact of_AND a0 A1 c1 l1 r1 r2 r3 r4 w hr1 hc1 hlt hG h0 h1 h2 h3 h4 h5 h
    rw [if_neg h5] at h
    by_cases h6 : a0.toList = [79, 82]
    · rw [if_pos h6] at h; exact of_OR a0 A1 c1 l1 r1 r2 r3 r4 w hr1 hc1 hlt hG h0 h1 h2 h3 h4 h5 h6 h
    rw [if_neg h6] at h
    by_cases h7 : a0.toList = [74, 79, 73, 78]
    · rw [if_pos h7] at h; exact of_JOIN a0 A1 c1 l1 r1 r2 r3 r4 w hr1 hc1 hlt hG h0 h1 h2 h3 h4 h5 h6 h7 h
    rw [if_neg h7] at h
    by_cases h8 : a0.toList = [67, 79, 85, 78, 84]
    · rw [if_pos h8] at h; exact of_COUNT a0 A1 c1 l1 r1 r2 r3 r4 w hr1 hc1 hlt hG h0 h1 h2 h3 h4 h5 h6 h7 h8 h
    rw [if_neg h8] at h
    by_cases h9 : a0.toList = [67, 79, 85, 78, 84, 65]
    · rw [if_pos h9] at h; exact of_COUNTA a0 A1 c1 l1 r1 r2 r3 r4 w hr1 hc1 hlt hG h0 h1 h2 h3 h4 h5 h6 h7 h8 h9 h
    rw [if_neg h9] at h
    simp only [Option.some.injEq, Prod.mk.injEq] at h
    obtain ⟨rfl, rfl, rfl, rfl⟩ := h
    exact of_none a0 A1 c1 l1 w hr1 hc1 hlt hG h0 h1 h2 h3 h4 h5 h6 h7 h8 h9
  · cases h
end Go.Proofs.YtmdmpafdpgdpoaaGreatDoor.P

namespace Go.Proofs.YtmdmpafdpgdpoaaGreatDoor.P
open Go.RowKit Go.Proofs.YtmdmpafdpgdpoaaGreatDoorW.PrintWords Go.Proofs.YtmdmpafdpgdpoaaGreatDoorW.PrintLast Go.Proofs.YtmdmpafdpgdpoaaGreatDoorW.PrintMore
attribute [local go_sem] max2_int min2_int max_two min_two max_three min_three max_four min_four   -- for this text's walks alone
set_option linter.unusedVariables false
set_option linter.unusedSimpArgs false
def pannierlaw10_wakes.f  : Option (Bool) := (pannierlaw10_num.f 1).bind fun bt403 => ((fold_Of.f (⟨#[83, 85, 77]⟩ : ByteArray) (([(⟨bt403.1, bt403.2.1, bt403.2.2⟩ : S26), (⟨3, 0, (⟨#[50]⟩ : ByteArray)⟩ : S26), (⟨0, 0, (⟨#[]⟩ : ByteArray)⟩ : S26)] : List (S26)))).bind fun bt409 => ((fold_Of.f (⟨#[65, 78, 68]⟩ : ByteArray) ([] : List (S26))).bind fun bt414 => ((fold_Of.f (⟨#[78, 79, 80, 69]⟩ : ByteArray) ([] : List (S26))).bind fun bt419 => ((pannierlaw10_num.f 7).bind fun bt424 => ((pannierlaw10_num.f 5).bind fun bt427 => ((pannierlaw10_num.f 7).bind fun bt430 => ((fold_Match.f bt424.1 bt424.2.1 bt424.2.2 (([(⟨bt427.1, bt427.2.1, bt427.2.2⟩ : S26), (⟨bt430.1, bt430.2.1, bt430.2.2⟩ : S26)] : List (S26)))).bind fun bt436 => (if bt409.2.2.2 = true then (if bt414.2.2.2 = true then (if bt419.2.2.2 = true then (none) else (if bt409.2.1 = 3 then (if bt414.1 = 1 then (if bt414.2.1 = 1 then (some (bt436.2.1 == 2)) else (none)) else (none)) else (none))) else (none)) else (none)))))))))
set_option maxHeartbeats 8000000 in
set_option maxRecDepth 100000 in
theorem pannierlaw10_wakes.calls  (r : Bool) (w : World) (hG : G2 w) (h : pannierlaw10_wakes.f  = some r) :
    Calls Tryz.prog 5 #[] w fun e w' => e = .returned (.bool r) ∧ Below w.heap.size w w' := by
  have hu26 := Tryz.underlying26
  have HB := Aside0.mk (Below.refl w.heap.size w)
  have H : ((pannierlaw10_num.f 1).bind fun bt403 => ((fold_Of.f (⟨#[83, 85, 77]⟩ : ByteArray) (([(⟨bt403.1, bt403.2.1, bt403.2.2⟩ : S26), (⟨3, 0, (⟨#[50]⟩ : ByteArray)⟩ : S26), (⟨0, 0, (⟨#[]⟩ : ByteArray)⟩ : S26)] : List (S26)))).bind fun bt409 => ((fold_Of.f (⟨#[65, 78, 68]⟩ : ByteArray) ([] : List (S26))).bind fun bt414 => ((fold_Of.f (⟨#[78, 79, 80, 69]⟩ : ByteArray) ([] : List (S26))).bind fun bt419 => ((pannierlaw10_num.f 7).bind fun bt424 => ((pannierlaw10_num.f 5).bind fun bt427 => ((pannierlaw10_num.f 7).bind fun bt430 => ((fold_Match.f bt424.1 bt424.2.1 bt424.2.2 (([(⟨bt427.1, bt427.2.1, bt427.2.2⟩ : S26), (⟨bt430.1, bt430.2.1, bt430.2.2⟩ : S26)] : List (S26)))).bind fun bt436 => (if bt409.2.2.2 = true then (if bt414.2.2.2 = true then (if bt419.2.2.2 = true then (none) else (if bt409.2.1 = 3 then (if bt414.1 = 1 then (if bt414.2.1 = 1 then (some (bt436.2.1 == 2)) else (none)) else (none)) else (none))) else (none)) else (none)))))))))) = some r := h
  clear h
  replace H := Option.bind_eq_some_iff.mp H
  obtain ⟨⟨t403, t404, t405⟩, A10, H⟩ := H
  replace H : ((fold_Of.f (⟨#[83, 85, 77]⟩ : ByteArray) (([(⟨t403, t404, t405⟩ : S26), (⟨3, 0, (⟨#[50]⟩ : ByteArray)⟩ : S26), (⟨0, 0, (⟨#[]⟩ : ByteArray)⟩ : S26)] : List (S26)))).bind fun bt409 => ((fold_Of.f (⟨#[65, 78, 68]⟩ : ByteArray) ([] : List (S26))).bind fun bt414 => ((fold_Of.f (⟨#[78, 79, 80, 69]⟩ : ByteArray) ([] : List (S26))).bind fun bt419 => ((pannierlaw10_num.f 7).bind fun bt424 => ((pannierlaw10_num.f 5).bind fun bt427 => ((pannierlaw10_num.f 7).bind fun bt430 => ((fold_Match.f bt424.1 bt424.2.1 bt424.2.2 (([(⟨bt427.1, bt427.2.1, bt427.2.2⟩ : S26), (⟨bt430.1, bt430.2.1, bt430.2.2⟩ : S26)] : List (S26)))).bind fun bt436 => (if bt409.2.2.2 = true then (if bt414.2.2.2 = true then (if bt419.2.2.2 = true then (none) else (if bt409.2.1 = 3 then (if bt414.1 = 1 then (if bt414.2.1 = 1 then (some (bt436.2.1 == 2)) else (none)) else (none)) else (none))) else (none)) else (none))))))))) = some r := H
  have A1 := Aside0.mk A10
  clear A10
  obtain ⟨y406, hy406⟩ : ∃ y_ : List (S26), y_ = (([(⟨t403, t404, t405⟩ : S26), (⟨3, 0, (⟨#[50]⟩ : ByteArray)⟩ : S26), (⟨0, 0, (⟨#[]⟩ : ByteArray)⟩ : S26)] : List (S26))) := ⟨_, rfl⟩
  replace H : ((fold_Of.f (⟨#[83, 85, 77]⟩ : ByteArray) y406).bind fun bt409 => ((fold_Of.f (⟨#[65, 78, 68]⟩ : ByteArray) ([] : List (S26))).bind fun bt414 => ((fold_Of.f (⟨#[78, 79, 80, 69]⟩ : ByteArray) ([] : List (S26))).bind fun bt419 => ((pannierlaw10_num.f 7).bind fun bt424 => ((pannierlaw10_num.f 5).bind fun bt427 => ((pannierlaw10_num.f 7).bind fun bt430 => ((fold_Match.f bt424.1 bt424.2.1 bt424.2.2 (([(⟨bt427.1, bt427.2.1, bt427.2.2⟩ : S26), (⟨bt430.1, bt430.2.1, bt430.2.2⟩ : S26)] : List (S26)))).bind fun bt436 => (if bt409.2.2.2 = true then (if bt414.2.2.2 = true then (if bt419.2.2.2 = true then (none) else (if bt409.2.1 = 3 then (if bt414.1 = 1 then (if bt414.2.1 = 1 then (some (bt436.2.1 == 2)) else (none)) else (none)) else (none))) else (none)) else (none))))))))) = some r := by first | (rw [hy406]; with_reducible exact H) | (have H2_ := (Option.bind_some _ _).symm.trans H; rw [hy406]; with_reducible exact H2_) | (have H2_ := (Option.bind_some _ _).symm.trans H; with_reducible exact H2_) | with_reducible exact H | (rw [hy406]; exact H) | exact H
  have Ny406 := Aside0.mk hy406
  clear hy406
  replace H := Option.bind_eq_some_iff.mp H
  obtain ⟨⟨t409, t410, t411, t412⟩, A20, H⟩ := H
  replace H : ((fold_Of.f (⟨#[65, 78, 68]⟩ : ByteArray) ([] : List (S26))).bind fun bt414 => ((fold_Of.f (⟨#[78, 79, 80, 69]⟩ : ByteArray) ([] : List (S26))).bind fun bt419 => ((pannierlaw10_num.f 7).bind fun bt424 => ((pannierlaw10_num.f 5).bind fun bt427 => ((pannierlaw10_num.f 7).bind fun bt430 => ((fold_Match.f bt424.1 bt424.2.1 bt424.2.2 (([(⟨bt427.1, bt427.2.1, bt427.2.2⟩ : S26), (⟨bt430.1, bt430.2.1, bt430.2.2⟩ : S26)] : List (S26)))).bind fun bt436 => (if t412 = true then (if bt414.2.2.2 = true then (if bt419.2.2.2 = true then (none) else (if t410 = 3 then (if bt414.1 = 1 then (if bt414.2.1 = 1 then (some (bt436.2.1 == 2)) else (none)) else (none)) else (none))) else (none)) else (none)))))))) = some r := H
  have A2 := Aside0.mk A20
  clear A20
  replace H := Option.bind_eq_some_iff.mp H
  obtain ⟨⟨t414, t415, t416, t417⟩, A30, H⟩ := H
  replace H : ((fold_Of.f (⟨#[78, 79, 80, 69]⟩ : ByteArray) ([] : List (S26))).bind fun bt419 => ((pannierlaw10_num.f 7).bind fun bt424 => ((pannierlaw10_num.f 5).bind fun bt427 => ((pannierlaw10_num.f 7).bind fun bt430 => ((fold_Match.f bt424.1 bt424.2.1 bt424.2.2 (([(⟨bt427.1, bt427.2.1, bt427.2.2⟩ : S26), (⟨bt430.1, bt430.2.1, bt430.2.2⟩ : S26)] : List (S26)))).bind fun bt436 => (if t412 = true then (if t417 = true then (if bt419.2.2.2 = true then (none) else (if t410 = 3 then (if t414 = 1 then (if t415 = 1 then (some (bt436.2.1 == 2)) else (none)) else (none)) else (none))) else (none)) else (none))))))) = some r := H
  have A3 := Aside0.mk A30
  clear A30
  replace H := Option.bind_eq_some_iff.mp H
  obtain ⟨⟨t419, t420, t421, t422⟩, A40, H⟩ := H
  replace H : ((pannierlaw10_num.f 7).bind fun bt424 => ((pannierlaw10_num.f 5).bind fun bt427 => ((pannierlaw10_num.f 7).bind fun bt430 => ((fold_Match.f bt424.1 bt424.2.1 bt424.2.2 (([(⟨bt427.1, bt427.2.1, bt427.2.2⟩ : S26), (⟨bt430.1, bt430.2.1, bt430.2.2⟩ : S26)] : List (S26)))).bind fun bt436 => (if t412 = true then (if t417 = true then (if t422 = true then (none) else (if t410 = 3 then (if t414 = 1 then (if t415 = 1 then (some (bt436.2.1 == 2)) else (none)) else (none)) else (none))) else (none)) else (none)))))) = some r := H
  have A4 := Aside0.mk A40
  clear A40
  replace H := Option.bind_eq_some_iff.mp H
  obtain ⟨⟨t424, t425, t426⟩, A50, H⟩ := H
  replace H : ((pannierlaw10_num.f 5).bind fun bt427 => ((pannierlaw10_num.f 7).bind fun bt430 => ((fold_Match.f t424 t425 t426 (([(⟨bt427.1, bt427.2.1, bt427.2.2⟩ : S26), (⟨bt430.1, bt430.2.1, bt430.2.2⟩ : S26)] : List (S26)))).bind fun bt436 => (if t412 = true then (if t417 = true then (if t422 = true then (none) else (if t410 = 3 then (if t414 = 1 then (if t415 = 1 then (some (bt436.2.1 == 2)) else (none)) else (none)) else (none))) else (none)) else (none))))) = some r := H
  have A5 := Aside0.mk A50
  clear A50
  replace H := Option.bind_eq_some_iff.mp H
  obtain ⟨⟨t427, t428, t429⟩, A60, H⟩ := H
  replace H : ((pannierlaw10_num.f 7).bind fun bt430 => ((fold_Match.f t424 t425 t426 (([(⟨t427, t428, t429⟩ : S26), (⟨bt430.1, bt430.2.1, bt430.2.2⟩ : S26)] : List (S26)))).bind fun bt436 => (if t412 = true then (if t417 = true then (if t422 = true then (none) else (if t410 = 3 then (if t414 = 1 then (if t415 = 1 then (some (bt436.2.1 == 2)) else (none)) else (none)) else (none))) else (none)) else (none)))) = some r := H
  have A6 := Aside0.mk A60
  clear A60
  replace H := Option.bind_eq_some_iff.mp H
  obtain ⟨⟨t430, t431, t432⟩, A70, H⟩ := H
  replace H : ((fold_Match.f t424 t425 t426 (([(⟨t427, t428, t429⟩ : S26), (⟨t430, t431, t432⟩ : S26)] : List (S26)))).bind fun bt436 => (if t412 = true then (if t417 = true then (if t422 = true then (none) else (if t410 = 3 then (if t414 = 1 then (if t415 = 1 then (some (bt436.2.1 == 2)) else (none)) else (none)) else (none))) else (none)) else (none))) = some r := H
  have A7 := Aside0.mk A70
  clear A70
  obtain ⟨y433, hy433⟩ : ∃ y_ : List (S26), y_ = (([(⟨t427, t428, t429⟩ : S26), (⟨t430, t431, t432⟩ : S26)] : List (S26))) := ⟨_, rfl⟩
  replace H : ((fold_Match.f t424 t425 t426 y433).bind fun bt436 => (if t412 = true then (if t417 = true then (if t422 = true then (none) else (if t410 = 3 then (if t414 = 1 then (if t415 = 1 then (some (bt436.2.1 == 2)) else (none)) else (none)) else (none))) else (none)) else (none))) = some r := by first | (rw [hy433]; with_reducible exact H) | (have H2_ := (Option.bind_some _ _).symm.trans H; rw [hy433]; with_reducible exact H2_) | (have H2_ := (Option.bind_some _ _).symm.trans H; with_reducible exact H2_) | with_reducible exact H | (rw [hy433]; exact H) | exact H
  have Ny433 := Aside0.mk hy433
  clear hy433
  replace H := Option.bind_eq_some_iff.mp H
  obtain ⟨⟨t436, t437, t438⟩, A80, H⟩ := H
  replace H : (if t412 = true then (if t417 = true then (if t422 = true then (none) else (if t410 = 3 then (if t414 = 1 then (if t415 = 1 then (some (t437 == 2)) else (none)) else (none)) else (none))) else (none)) else (none)) = some r := H
  have A8 := Aside0.mk A80
  clear A80
  by_cases c9 : t412 = true
  · subst c9
    have H1 : (if t417 = true then (if t422 = true then (none) else (if t410 = 3 then (if t414 = 1 then (if t415 = 1 then (some (t437 == 2)) else (none)) else (none)) else (none))) else (none)) = some r := by rw [if_pos rfl] at H; exact H
    clear H
    have H := H1
    clear H1
    by_cases c10 : t417 = true
    · subst c10
      have H1 : (if t422 = true then (none) else (if t410 = 3 then (if t414 = 1 then (if t415 = 1 then (some (t437 == 2)) else (none)) else (none)) else (none))) = some r := by rw [if_pos rfl] at H; exact H
      clear H
      have H := H1
      clear H1
      by_cases c11 : t422 = true
      · subst c11
        have H1 : (none) = some r := by rw [if_pos rfl] at H; exact H
        clear H
        have H := H1
        clear H1
        exact absurd H (by simp)
      · replace c11 := Bool.eq_false_iff.mpr c11
        subst c11
        have H1 : (if t410 = 3 then (if t414 = 1 then (if t415 = 1 then (some (t437 == 2)) else (none)) else (none)) else (none)) = some r := by rw [if_neg (show ¬ (false = true) by decide)] at H; exact H
        clear H
        have H := H1
        clear H1
        by_cases c12 : t410 = 3
        · rw [if_pos c12] at H
          have c12b0 : (t410 == 3) = true := beq_iff_eq.mpr c12
          have c12b1 : (t410 != 3) = false := bne_eq_false_iff_eq.mpr c12
          clear c12
          by_cases c13 : t414 = 1
          · rw [if_pos c13] at H
            have c13b0 : (t414 == 1) = true := beq_iff_eq.mpr c13
            have c13b1 : (t414 != 1) = false := bne_eq_false_iff_eq.mpr c13
            clear c13
            by_cases c14 : t415 = 1
            · rw [if_pos c14] at H
              have c14b0 : (t415 == 1) = true := beq_iff_eq.mpr c14
              have c14b1 : (t415 != 1) = false := bne_eq_false_iff_eq.mpr c14
              clear c14
              obtain rfl := Option.some.inj H
              go_enter Tryz.func5, Tryz.ntmps5
              go_wp2_with (first | ((with_reducible refine gate_callee (f := 10) rfl ?_); refine goesL_ (some 9) rfl rfl Tryz.func10 (by kernel_rfl) rfl #[.int .i64 1] rfl (by (try simp only [List.map_toArray, List.map_cons, List.map_nil]); first | done | rfl | (simp only [List.length_drop, List.length_take]; rfl)) ?_; (with_reducible refine (pannierlaw10_num.calls 1 t403 t404 t405 _ A1.out).mono ?_); rintro e w15 ⟨rfl, hb⟩; refine ⟨_, rfl, ?_⟩; have n0_ := Aside0.mk (below_step (by repeat first | with_reducible exact HB.out | refine zS ?_ | exact HB.out) hb); clear HB; have HB := n0_; clear n0_; (try clear hb); (try clear hb2); (try clear hk); (try clear hi)) | ((with_reducible refine gate_dst (N := 12) rfl ?_); refine Kd.R_lit k26 _ 26 ?hg (N := 12) ?hd (xs := ([(⟨t403, t404, t405⟩ : S26), (⟨3, 0, (⟨#[50]⟩ : ByteArray)⟩ : S26), (⟨0, 0, (⟨#[]⟩ : ByteArray)⟩ : S26)] : List (S26))) (inner := [.int .i64 t403, .int .i64 t404, .string t405, .int .i64 3, .int .i64 0, .string (⟨#[50]⟩ : ByteArray), .int .i64 0, .int .i64 0, .string (⟨#[]⟩ : ByteArray)]) (ok := fun _ => True) (okp := fun _ => True) ?hr ?hp (fun _ hk => hk) trivial (Below.refl _ _) (Nat.le_refl _) (by simp) ?_; (case hd => rfl); (case hg => rfl); (case hr => first | (go_simp; done) | (go_simp; rfl)); (case hp => exact (Reps.c3 (show Kd.M k26 _ _ _ (⟨t403, t404, t405⟩ : S26) [.int .i64 t403, .int .i64 t404, .string t405] from (k26_mkM _ _ _ (⟨t403, t404, t405⟩ : S26) )) (Reps.c3 (show Kd.M k26 _ _ _ (⟨3, 0, (⟨#[50]⟩ : ByteArray)⟩ : S26) [.int .i64 3, .int .i64 0, .string (⟨#[50]⟩ : ByteArray)] from (k26_mkM _ _ _ (⟨3, 0, (⟨#[50]⟩ : ByteArray)⟩ : S26) )) (Reps.c3 (show Kd.M k26 _ _ _ (⟨0, 0, (⟨#[]⟩ : ByteArray)⟩ : S26) [.int .i64 0, .int .i64 0, .string (⟨#[]⟩ : ByteArray)] from (k26_mkM _ _ _ (⟨0, 0, (⟨#[]⟩ : ByteArray)⟩ : S26) )) (Reps.none _ _))))); intro v407 w16 ho17 hb hg_ hnew_; clear hg_ hnew_; (first | rw [← Ny406.out] at ho17 | (simp only [Int.reduceToNat] at ho17; rw [← Ny406.out] at ho17)); have n0_ := Aside0.mk (Kd.R_lower ho17 (below_size (by repeat first | with_reducible exact HB.out | refine zS ?_ | exact HB.out))); have n1_ := Aside0.mk (below_step (by repeat first | with_reducible exact HB.out | refine zS ?_ | exact HB.out) hb); clear HB; have HO408 := n0_; have HB := n1_; clear n0_ n1_; clear hb ho17; obtain ⟨Ao18, co18, eo18⟩ := Kd.R_slice HO408.out; subst eo18) | ((with_reducible refine gate_callee (f := 6) rfl ?_); refine goesL_ (some 13) rfl rfl Tryz.func6 (by kernel_rfl) rfl #[.string (⟨#[83, 85, 77]⟩ : ByteArray), .slice Ao18 y406.length co18] rfl (by (try simp only [List.map_toArray, List.map_cons, List.map_nil]); first | done | rfl | (simp only [List.length_drop, List.length_take]; rfl)) ?_; (with_reducible refine (fold_Of.calls (⟨#[83, 85, 77]⟩ : ByteArray) _ _ y406 t409 t410 t411 true _ ?side1 ?side2 ?side3 A2.out).mono ?_); (case side1 => repeat (first | exact (Kd.R_reads' HO408.out).2.2 | (with_reducible refine Kd.C_alloc ?_ _) | (with_reducible refine Kd.C_drewN ?_ _) | (with_reducible refine Kd.C_drew ?_))); (case side2 => exact (Kd.R_reads' HO408.out).2.1); (case side3 => exact gl_2_2 (by repeat first | with_reducible exact HB.out | refine zS ?_ | exact HB.out) hG); rintro e w19 ⟨rfl, hb⟩; refine ⟨_, rfl, ?_⟩; have n0_ := Aside0.mk (Kd.R_below (by (with_reducible repeat (first | apply Kd.R_alloc | apply Kd.R_drewN | apply Kd.R_drew)); exact HO408.out) hb); have n1_ := Aside0.mk (below_step (by repeat first | with_reducible exact HB.out | refine zS ?_ | exact HB.out) hb); clear HO408; clear HB; have HO408 := n0_; have HB := n1_; clear n0_ n1_; (try clear hb); (try clear hb2); (try clear hk); (try clear hi)) | ((with_reducible refine gate_dst (N := 1) rfl ?_); refine box_event ?hg (N := 1) ?hd (cs := #[.int .i64 0, .int .i64 0, .string (⟨#[]⟩ : ByteArray)]) (t := 26) ?hr ?_; (case hd => rfl); (case hg => rfl); (case hr => first | (go_simp; done) | (go_simp; rfl)); intro gb413 hg w20 hbox hb; have n0_ := Aside0.mk (Kd.R_below (Kd.R_elderB (by (with_reducible repeat (first | apply Kd.R_alloc | apply Kd.R_drewN | apply Kd.R_drew)); exact HO408.out) gb413 (Nat.le_of_eq hg.symm)) hb); have n1_ := Aside0.mk (below_step (by repeat first | with_reducible exact HB.out | refine zS ?_ | exact HB.out) hb); have n2_ := Aside0.mk (hbox); have n3_ := Aside0.mk ((by rw [hg]; exact (below_size (by repeat first | with_reducible exact HB.out | refine zS ?_ | exact HB.out)) : w.heap.size ≤ gb413)); have n4_ := n3_; clear HO408; clear HB; have HO408 := n0_; have HB := n1_; have BK413 := n2_; have GW413 := n3_; have GE413 := n4_; clear n0_ n1_ n2_ n3_ n4_; clear hb hbox hg; obtain ⟨hcz21_0, hcz21_1, hcz21_2, hfz21_0, hfz21_1, hfz21_2⟩ := zC3 BK413.out) | ((with_reducible refine gate_callee (f := 6) rfl ?_); refine goesL_ (some 17) rfl rfl Tryz.func6 (by kernel_rfl) rfl #[.string (⟨#[65, 78, 68]⟩ : ByteArray), .slice none 0 0] rfl (by (try simp only [List.map_toArray, List.map_cons, List.map_nil]); first | done | rfl | (simp only [List.length_drop, List.length_take]; rfl)) ?_; (refine (fold_Of.calls (⟨#[65, 78, 68]⟩ : ByteArray) _ _ ([] : List (S26)) t414 t415 t416 true _ ?side1 ?side2 ?side3 A3.out).mono ?_); (case side1 => exact Kd.C_nil _ _); (case side2 => exact Nat.le_refl _); (case side3 => exact gl_2_2 (by repeat first | with_reducible exact HB.out | refine zS ?_ | refine below_set ?_ GE413.out | exact HB.out) hG); rintro e w22 ⟨rfl, hb⟩; refine ⟨_, rfl, ?_⟩; have n0_ := Aside0.mk (Kd.R_below (by (with_reducible repeat (first | apply Kd.R_alloc | apply Kd.R_drewN | apply Kd.R_drew)); exact (Kd.R_mono (Kd.R_far (p := ⟨gb413, 2, none⟩) (Kd.R_far (p := ⟨gb413, 1, none⟩) (Kd.R_far (p := ⟨gb413, 0, none⟩) (Kd.R_mono HO408.out (fun k_ hk => (⟨hk, hk.2⟩ : _ ∧ k_ ≠ gb413))) (fun _ hk => hk.2) (.int .i64 t409)) (fun _ hk => hk.2) (.int .i64 t410)) (fun _ hk => hk.2) (.string t411)) (fun _ h_ => h_.1))) hb); have n1_ := Aside0.mk (blk_below (g := gb413) (o := .cells #[.int .i64 t409, .int .i64 t410, .string t411] 26 (0, 0)) (by refine zB ?_; refine blk_put (cs := #[.int .i64 t409, .int .i64 t410, .string (⟨#[]⟩ : ByteArray)]) ?_ 2 _ rfl; refine zB ?_; refine blk_put (cs := #[.int .i64 t409, .int .i64 0, .string (⟨#[]⟩ : ByteArray)]) ?_ 1 _ rfl; refine zB ?_; refine blk_put (cs := #[.int .i64 0, .int .i64 0, .string (⟨#[]⟩ : ByteArray)]) ?_ 0 _ rfl; refine zB ?_; exact BK413.out) hb); have n2_ := Aside0.mk (below_step (by repeat first | with_reducible exact HB.out | refine zS ?_ | refine below_set ?_ GE413.out | exact HB.out) hb); clear HO408; clear BK413; clear HB; have HO408 := n0_; have BK413 := n1_; have HB := n2_; clear n0_ n1_ n2_; (try clear hb); (try clear hb2); (try clear hk); (try clear hi)) | ((with_reducible refine gate_dst (N := 3) rfl ?_); refine box_event ?hg (N := 3) ?hd (cs := #[.int .i64 0, .int .i64 0, .string (⟨#[]⟩ : ByteArray)]) (t := 26) ?hr ?_; (case hd => rfl); (case hg => rfl); (case hr => first | (go_simp; done) | (go_simp; rfl)); intro gb418 hg w23 hbox hb; have n0_ := Aside0.mk (Kd.R_below (Kd.R_elderB (by (with_reducible repeat (first | apply Kd.R_alloc | apply Kd.R_drewN | apply Kd.R_drew)); exact HO408.out) gb418 (Nat.le_of_eq hg.symm)) hb); have n1_ := Aside0.mk (blk_below (g := gb413) (o := .cells #[.int .i64 t409, .int .i64 t410, .string t411] 26 (0, 0)) (zB BK413.out) hb); have n2_ := Aside0.mk (below_step (by repeat first | with_reducible exact HB.out | refine zS ?_ | refine below_set ?_ GE413.out | exact HB.out) hb); have n3_ := Aside0.mk (hbox); have n4_ := Aside0.mk ((by rw [hg]; exact (below_size (by repeat first | with_reducible exact HB.out | refine zS ?_ | refine below_set ?_ GE413.out | exact HB.out)) : w.heap.size ≤ gb418)); have n5_ := n4_; have n6_ := Aside0.mk ((by rw [hg]; exact Nat.ne_of_lt (blk_lt (g := gb413) (o := .cells #[.int .i64 t409, .int .i64 t410, .string t411] 26 (0, 0)) (zB BK413.out)) : gb413 ≠ gb418)); have n7_ := Aside0.mk ((by rw [hg]; exact Nat.ne_of_gt (blk_lt (g := gb413) (o := .cells #[.int .i64 t409, .int .i64 t410, .string t411] 26 (0, 0)) (zB BK413.out)) : gb418 ≠ gb413)); clear HO408; clear BK413; clear HB; have HO408 := n0_; have BK413 := n1_; have HB := n2_; have BK418 := n3_; have GW418 := n4_; have GE418 := n5_; have NB413_418 := n6_; have NB418_413 := n7_; clear n0_ n1_ n2_ n3_ n4_ n5_ n6_ n7_; clear hb hbox hg; have hnb24 := NB418_413.out; have hnc24 := NB413_418.out; obtain ⟨hcz25_0, hcz25_1, hcz25_2, hfz25_0, hfz25_1, hfz25_2⟩ := zC3 BK418.out) | ((with_reducible refine gate_callee (f := 6) rfl ?_); refine goesL_ (some 21) rfl rfl Tryz.func6 (by kernel_rfl) rfl #[.string (⟨#[78, 79, 80, 69]⟩ : ByteArray), .slice none 0 0] rfl (by (try simp only [List.map_toArray, List.map_cons, List.map_nil]); first | done | rfl | (simp only [List.length_drop, List.length_take]; rfl)) ?_; (refine (fold_Of.calls (⟨#[78, 79, 80, 69]⟩ : ByteArray) _ _ ([] : List (S26)) t419 t420 t421 false _ ?side1 ?side2 ?side3 A4.out).mono ?_); (case side1 => exact Kd.C_nil _ _); (case side2 => exact Nat.le_refl _); (case side3 => exact gl_2_2 (by repeat first | with_reducible exact HB.out | refine zS ?_ | refine below_set ?_ GE413.out | refine below_set ?_ GE418.out | exact HB.out) hG); rintro e w26 ⟨rfl, hb⟩; refine ⟨_, rfl, ?_⟩; have n0_ := Aside0.mk (Kd.R_below (by (with_reducible repeat (first | apply Kd.R_alloc | apply Kd.R_drewN | apply Kd.R_drew)); exact (Kd.R_mono (Kd.R_far (p := ⟨gb418, 2, none⟩) (Kd.R_far (p := ⟨gb418, 1, none⟩) (Kd.R_far (p := ⟨gb418, 0, none⟩) (Kd.R_mono HO408.out (fun k_ hk => (⟨hk, hk.2⟩ : _ ∧ k_ ≠ gb418))) (fun _ hk => hk.2) (.int .i64 t414)) (fun _ hk => hk.2) (.int .i64 t415)) (fun _ hk => hk.2) (.string t416)) (fun _ h_ => h_.1))) hb); have n1_ := Aside0.mk (blk_below (g := gb413) (o := .cells #[.int .i64 t409, .int .i64 t410, .string t411] 26 (0, 0)) (by refine zB (blk_far ?_ NB413_418.out _); refine zB ?_; refine blk_far ?_ NB413_418.out _; refine zB (blk_far ?_ NB413_418.out _); refine zB ?_; exact BK413.out) hb); have n2_ := Aside0.mk (blk_below (g := gb418) (o := .cells #[.int .i64 t414, .int .i64 t415, .string t416] 26 (0, 0)) (by refine zB ?_; refine blk_put (cs := #[.int .i64 t414, .int .i64 t415, .string (⟨#[]⟩ : ByteArray)]) ?_ 2 _ rfl; refine zB ?_; refine blk_put (cs := #[.int .i64 t414, .int .i64 0, .string (⟨#[]⟩ : ByteArray)]) ?_ 1 _ rfl; refine zB ?_; refine blk_put (cs := #[.int .i64 0, .int .i64 0, .string (⟨#[]⟩ : ByteArray)]) ?_ 0 _ rfl; refine zB ?_; exact BK418.out) hb); have n3_ := Aside0.mk (below_step (by repeat first | with_reducible exact HB.out | refine zS ?_ | refine below_set ?_ GE413.out | refine below_set ?_ GE418.out | exact HB.out) hb); clear HO408; clear BK413; clear BK418; clear HB; have HO408 := n0_; have BK413 := n1_; have BK418 := n2_; have HB := n3_; clear n0_ n1_ n2_ n3_; (try clear hb); (try clear hb2); (try clear hk); (try clear hi)) | ((with_reducible refine gate_dst (N := 5) rfl ?_); refine box_event ?hg (N := 5) ?hd (cs := #[.int .i64 0, .int .i64 0, .string (⟨#[]⟩ : ByteArray)]) (t := 26) ?hr ?_; (case hd => rfl); (case hg => rfl); (case hr => first | (go_simp; done) | (go_simp; rfl)); intro gb423 hg w27 hbox hb; have n0_ := Aside0.mk (Kd.R_below (Kd.R_elderB (by (with_reducible repeat (first | apply Kd.R_alloc | apply Kd.R_drewN | apply Kd.R_drew)); exact HO408.out) gb423 (Nat.le_of_eq hg.symm)) hb); have n1_ := Aside0.mk (blk_below (g := gb413) (o := .cells #[.int .i64 t409, .int .i64 t410, .string t411] 26 (0, 0)) (zB BK413.out) hb); have n2_ := Aside0.mk (blk_below (g := gb418) (o := .cells #[.int .i64 t414, .int .i64 t415, .string t416] 26 (0, 0)) (zB BK418.out) hb); have n3_ := Aside0.mk (below_step (by repeat first | with_reducible exact HB.out | refine zS ?_ | refine below_set ?_ GE413.out | refine below_set ?_ GE418.out | exact HB.out) hb); have n4_ := Aside0.mk (hbox); have n5_ := Aside0.mk ((by rw [hg]; exact (below_size (by repeat first | with_reducible exact HB.out | refine zS ?_ | refine below_set ?_ GE413.out | refine below_set ?_ GE418.out | exact HB.out)) : w.heap.size ≤ gb423)); have n6_ := n5_; have n7_ := Aside0.mk ((by rw [hg]; exact Nat.ne_of_lt (blk_lt (g := gb413) (o := .cells #[.int .i64 t409, .int .i64 t410, .string t411] 26 (0, 0)) (zB BK413.out)) : gb413 ≠ gb423)); have n8_ := Aside0.mk ((by rw [hg]; exact Nat.ne_of_gt (blk_lt (g := gb413) (o := .cells #[.int .i64 t409, .int .i64 t410, .string t411] 26 (0, 0)) (zB BK413.out)) : gb423 ≠ gb413)); have n9_ := Aside0.mk ((by rw [hg]; exact Nat.ne_of_lt (blk_lt (g := gb418) (o := .cells #[.int .i64 t414, .int .i64 t415, .string t416] 26 (0, 0)) (zB BK418.out)) : gb418 ≠ gb423)); have n10_ := Aside0.mk ((by rw [hg]; exact Nat.ne_of_gt (blk_lt (g := gb418) (o := .cells #[.int .i64 t414, .int .i64 t415, .string t416] 26 (0, 0)) (zB BK418.out)) : gb423 ≠ gb418)); clear HO408; clear BK413; clear BK418; clear HB; have HO408 := n0_; have BK413 := n1_; have BK418 := n2_; have HB := n3_; have BK423 := n4_; have GW423 := n5_; have GE423 := n6_; have NB413_423 := n7_; have NB423_413 := n8_; have NB418_423 := n9_; have NB423_418 := n10_; clear n0_ n1_ n2_ n3_ n4_ n5_ n6_ n7_ n8_ n9_ n10_; clear hb hbox hg; have hnb28 := NB423_413.out; have hnc28 := NB413_423.out; have hnb29 := NB423_418.out; have hnc29 := NB418_423.out; obtain ⟨hcz30_0, hcz30_1, hcz30_2, hfz30_0, hfz30_1, hfz30_2⟩ := zC3 BK423.out) | ((with_reducible refine gate_callee (f := 10) rfl ?_); refine goesL_ (some 24) rfl rfl Tryz.func10 (by kernel_rfl) rfl #[.int .i64 7] rfl (by (try simp only [List.map_toArray, List.map_cons, List.map_nil]); first | done | rfl | (simp only [List.length_drop, List.length_take]; rfl)) ?_; (with_reducible refine (pannierlaw10_num.calls 7 t424 t425 t426 _ A5.out).mono ?_); rintro e w31 ⟨rfl, hb⟩; refine ⟨_, rfl, ?_⟩; have n0_ := Aside0.mk (Kd.R_below (by (with_reducible repeat (first | apply Kd.R_alloc | apply Kd.R_drewN | apply Kd.R_drew)); exact (Kd.R_mono (Kd.R_far (p := ⟨gb423, 2, none⟩) (Kd.R_far (p := ⟨gb423, 1, none⟩) (Kd.R_far (p := ⟨gb423, 0, none⟩) (Kd.R_mono HO408.out (fun k_ hk => (⟨hk, hk.2⟩ : _ ∧ k_ ≠ gb423))) (fun _ hk => hk.2) (.int .i64 t419)) (fun _ hk => hk.2) (.int .i64 t420)) (fun _ hk => hk.2) (.string t421)) (fun _ h_ => h_.1))) hb); have n1_ := Aside0.mk (blk_below (g := gb413) (o := .cells #[.int .i64 t409, .int .i64 t410, .string t411] 26 (0, 0)) (by refine zB (blk_far ?_ NB413_423.out _); refine zB ?_; refine blk_far ?_ NB413_423.out _; refine zB (blk_far ?_ NB413_423.out _); refine zB ?_; exact BK413.out) hb); have n2_ := Aside0.mk (blk_below (g := gb418) (o := .cells #[.int .i64 t414, .int .i64 t415, .string t416] 26 (0, 0)) (by refine zB (blk_far ?_ NB418_423.out _); refine zB ?_; refine blk_far ?_ NB418_423.out _; refine zB (blk_far ?_ NB418_423.out _); refine zB ?_; exact BK418.out) hb); have n3_ := Aside0.mk (blk_below (g := gb423) (o := .cells #[.int .i64 t419, .int .i64 t420, .string t421] 26 (0, 0)) (by refine zB ?_; refine blk_put (cs := #[.int .i64 t419, .int .i64 t420, .string (⟨#[]⟩ : ByteArray)]) ?_ 2 _ rfl; refine zB ?_; refine blk_put (cs := #[.int .i64 t419, .int .i64 0, .string (⟨#[]⟩ : ByteArray)]) ?_ 1 _ rfl; refine zB ?_; refine blk_put (cs := #[.int .i64 0, .int .i64 0, .string (⟨#[]⟩ : ByteArray)]) ?_ 0 _ rfl; refine zB ?_; exact BK423.out) hb); have n4_ := Aside0.mk (below_step (by repeat first | with_reducible exact HB.out | refine zS ?_ | refine below_set ?_ GE413.out | refine below_set ?_ GE418.out | refine below_set ?_ GE423.out | exact HB.out) hb); clear HO408; clear BK413; clear BK418; clear BK423; clear HB; have HO408 := n0_; have BK413 := n1_; have BK418 := n2_; have BK423 := n3_; have HB := n4_; clear n0_ n1_ n2_ n3_ n4_; (try clear hb); (try clear hb2); (try clear hk); (try clear hi)) | ((with_reducible refine gate_callee (f := 10) rfl ?_); refine goesL_ (some 25) rfl rfl Tryz.func10 (by kernel_rfl) rfl #[.int .i64 5] rfl (by (try simp only [List.map_toArray, List.map_cons, List.map_nil]); first | done | rfl | (simp only [List.length_drop, List.length_take]; rfl)) ?_; (with_reducible refine (pannierlaw10_num.calls 5 t427 t428 t429 _ A6.out).mono ?_); rintro e w32 ⟨rfl, hb⟩; refine ⟨_, rfl, ?_⟩; have n0_ := Aside0.mk (Kd.R_below (by (with_reducible repeat (first | apply Kd.R_alloc | apply Kd.R_drewN | apply Kd.R_drew)); exact HO408.out) hb); have n1_ := Aside0.mk (blk_below (g := gb413) (o := .cells #[.int .i64 t409, .int .i64 t410, .string t411] 26 (0, 0)) (zB BK413.out) hb); have n2_ := Aside0.mk (blk_below (g := gb418) (o := .cells #[.int .i64 t414, .int .i64 t415, .string t416] 26 (0, 0)) (zB BK418.out) hb); have n3_ := Aside0.mk (blk_below (g := gb423) (o := .cells #[.int .i64 t419, .int .i64 t420, .string t421] 26 (0, 0)) (zB BK423.out) hb); have n4_ := Aside0.mk (below_step (by repeat first | with_reducible exact HB.out | refine zS ?_ | refine below_set ?_ GE413.out | refine below_set ?_ GE418.out | refine below_set ?_ GE423.out | exact HB.out) hb); clear HO408; clear BK413; clear BK418; clear BK423; clear HB; have HO408 := n0_; have BK413 := n1_; have BK418 := n2_; have BK423 := n3_; have HB := n4_; clear n0_ n1_ n2_ n3_ n4_; (try clear hb); (try clear hb2); (try clear hk); (try clear hi)) | ((with_reducible refine gate_callee (f := 10) rfl ?_); refine goesL_ (some 26) rfl rfl Tryz.func10 (by kernel_rfl) rfl #[.int .i64 7] rfl (by (try simp only [List.map_toArray, List.map_cons, List.map_nil]); first | done | rfl | (simp only [List.length_drop, List.length_take]; rfl)) ?_; (with_reducible refine (pannierlaw10_num.calls 7 t430 t431 t432 _ A7.out).mono ?_); rintro e w33 ⟨rfl, hb⟩; refine ⟨_, rfl, ?_⟩; have n0_ := Aside0.mk (Kd.R_below (by (with_reducible repeat (first | apply Kd.R_alloc | apply Kd.R_drewN | apply Kd.R_drew)); exact HO408.out) hb); have n1_ := Aside0.mk (blk_below (g := gb413) (o := .cells #[.int .i64 t409, .int .i64 t410, .string t411] 26 (0, 0)) (zB BK413.out) hb); have n2_ := Aside0.mk (blk_below (g := gb418) (o := .cells #[.int .i64 t414, .int .i64 t415, .string t416] 26 (0, 0)) (zB BK418.out) hb); have n3_ := Aside0.mk (blk_below (g := gb423) (o := .cells #[.int .i64 t419, .int .i64 t420, .string t421] 26 (0, 0)) (zB BK423.out) hb); have n4_ := Aside0.mk (below_step (by repeat first | with_reducible exact HB.out | refine zS ?_ | refine below_set ?_ GE413.out | refine below_set ?_ GE418.out | refine below_set ?_ GE423.out | exact HB.out) hb); clear HO408; clear BK413; clear BK418; clear BK423; clear HB; have HO408 := n0_; have BK413 := n1_; have BK418 := n2_; have BK423 := n3_; have HB := n4_; clear n0_ n1_ n2_ n3_ n4_; (try clear hb); (try clear hb2); (try clear hk); (try clear hi)) | ((with_reducible refine gate_dst (N := 27) rfl ?_); refine Kd.R_lit k26 _ 26 ?hg (N := 27) ?hd (xs := ([(⟨t427, t428, t429⟩ : S26), (⟨t430, t431, t432⟩ : S26)] : List (S26))) (inner := [.int .i64 t427, .int .i64 t428, .string t429, .int .i64 t430, .int .i64 t431, .string t432]) (ok := fun _ => True) (okp := fun _ => True) ?hr ?hp (fun _ hk => hk) trivial (Below.refl _ _) (Nat.le_refl _) (by simp) ?_; (case hd => rfl); (case hg => rfl); (case hr => first | (go_simp; done) | (go_simp; rfl)); (case hp => exact (Reps.c3 (show Kd.M k26 _ _ _ (⟨t427, t428, t429⟩ : S26) [.int .i64 t427, .int .i64 t428, .string t429] from (k26_mkM _ _ _ (⟨t427, t428, t429⟩ : S26) )) (Reps.c3 (show Kd.M k26 _ _ _ (⟨t430, t431, t432⟩ : S26) [.int .i64 t430, .int .i64 t431, .string t432] from (k26_mkM _ _ _ (⟨t430, t431, t432⟩ : S26) )) (Reps.none _ _)))); intro v434 w34 ho35 hb hg_ hnew_; clear hg_ hnew_; (first | rw [← Ny433.out] at ho35 | (simp only [Int.reduceToNat] at ho35; rw [← Ny433.out] at ho35)); have n0_ := Aside0.mk (Kd.R_elder' (by (with_reducible repeat (first | apply Kd.R_alloc | apply Kd.R_drewN | apply Kd.R_drew)); exact HO408.out) (Kd.R_base ho35) hb); have n1_ := Aside0.mk (Kd.R_lower (Kd.R_newB (Kd.R_newB (Kd.R_newB (Kd.R_new' ho35 (Kd.R_lt (by (with_reducible repeat (first | apply Kd.R_alloc | apply Kd.R_drewN | apply Kd.R_drew)); exact HO408.out))) (g := gb413) (o := .cells #[.int .i64 t409, .int .i64 t410, .string t411] 26 (0, 0)) (zB BK413.out)) (g := gb418) (o := .cells #[.int .i64 t414, .int .i64 t415, .string t416] 26 (0, 0)) (zB BK418.out)) (g := gb423) (o := .cells #[.int .i64 t419, .int .i64 t420, .string t421] 26 (0, 0)) (zB BK423.out)) (below_size (by repeat first | with_reducible exact HB.out | refine zS ?_ | refine below_set ?_ GE413.out | refine below_set ?_ GE418.out | refine below_set ?_ GE423.out | exact HB.out))); have n2_ := Aside0.mk (blk_below (g := gb413) (o := .cells #[.int .i64 t409, .int .i64 t410, .string t411] 26 (0, 0)) (zB BK413.out) hb); have n3_ := Aside0.mk (blk_below (g := gb418) (o := .cells #[.int .i64 t414, .int .i64 t415, .string t416] 26 (0, 0)) (zB BK418.out) hb); have n4_ := Aside0.mk (blk_below (g := gb423) (o := .cells #[.int .i64 t419, .int .i64 t420, .string t421] 26 (0, 0)) (zB BK423.out) hb); have n5_ := Aside0.mk (below_step (by repeat first | with_reducible exact HB.out | refine zS ?_ | refine below_set ?_ GE413.out | refine below_set ?_ GE418.out | refine below_set ?_ GE423.out | exact HB.out) hb); clear HO408; clear BK413; clear BK418; clear BK423; clear HB; have HO408 := n0_; have HO435 := n1_; have BK413 := n2_; have BK418 := n3_; have BK423 := n4_; have HB := n5_; clear n0_ n1_ n2_ n3_ n4_ n5_; clear hb ho35; obtain ⟨Ao36, co36, eo36⟩ := Kd.R_slice HO435.out; subst eo36) | ((with_reducible refine gate_callee (f := 11) rfl ?_); refine goesL_ (some 28) rfl rfl Tryz.func11 (by kernel_rfl) rfl #[.agg #[.int .i64 t424, .int .i64 t425, .string t426], .slice Ao36 y433.length co36] rfl (by (try simp only [List.map_toArray, List.map_cons, List.map_nil]); first | done | rfl | (simp only [List.length_drop, List.length_take]; rfl)) ?_; (with_reducible refine (fold_Match.calls t424 t425 t426 _ _ y433 t436 t437 t438 _ ?side1 ?side2 A8.out).mono ?_); (case side1 => repeat (first | exact (Kd.R_reads' HO435.out).2.2 | (with_reducible refine Kd.C_alloc ?_ _) | (with_reducible refine Kd.C_drewN ?_ _) | (with_reducible refine Kd.C_drew ?_))); (case side2 => exact (Kd.R_reads' HO435.out).2.1); rintro e w37 ⟨rfl, hb⟩; refine ⟨_, rfl, ?_⟩; have n0_ := Aside0.mk (Kd.R_below (by (with_reducible repeat (first | apply Kd.R_alloc | apply Kd.R_drewN | apply Kd.R_drew)); exact HO408.out) hb); have n1_ := Aside0.mk (Kd.R_below (by (with_reducible repeat (first | apply Kd.R_alloc | apply Kd.R_drewN | apply Kd.R_drew)); exact HO435.out) hb); have n2_ := Aside0.mk (blk_below (g := gb413) (o := .cells #[.int .i64 t409, .int .i64 t410, .string t411] 26 (0, 0)) (zB BK413.out) hb); have n3_ := Aside0.mk (blk_below (g := gb418) (o := .cells #[.int .i64 t414, .int .i64 t415, .string t416] 26 (0, 0)) (zB BK418.out) hb); have n4_ := Aside0.mk (blk_below (g := gb423) (o := .cells #[.int .i64 t419, .int .i64 t420, .string t421] 26 (0, 0)) (zB BK423.out) hb); have n5_ := Aside0.mk (below_step (by repeat first | with_reducible exact HB.out | refine zS ?_ | refine below_set ?_ GE413.out | refine below_set ?_ GE418.out | refine below_set ?_ GE423.out | exact HB.out) hb); clear HO408; clear HO435; clear BK413; clear BK418; clear BK423; clear HB; have HO408 := n0_; have HO435 := n1_; have BK413 := n2_; have BK418 := n3_; have BK423 := n4_; have HB := n5_; clear n0_ n1_ n2_ n3_ n4_ n5_; (try clear hb); (try clear hb2); (try clear hk); (try clear hi)) | ((with_reducible refine gate_dst (N := 7) rfl ?_); refine box_event ?hg (N := 7) ?hd (cs := #[.int .i64 0, .int .i64 0, .string (⟨#[]⟩ : ByteArray)]) (t := 26) ?hr ?_; (case hd => rfl); (case hg => rfl); (case hr => first | (go_simp; done) | (go_simp; rfl)); intro gb439 hg w38 hbox hb; have n0_ := Aside0.mk (Kd.R_below (Kd.R_elderB (by (with_reducible repeat (first | apply Kd.R_alloc | apply Kd.R_drewN | apply Kd.R_drew)); exact HO408.out) gb439 (Nat.le_of_eq hg.symm)) hb); have n1_ := Aside0.mk (Kd.R_below (Kd.R_elderB (by (with_reducible repeat (first | apply Kd.R_alloc | apply Kd.R_drewN | apply Kd.R_drew)); exact HO435.out) gb439 (Nat.le_of_eq hg.symm)) hb); have n2_ := Aside0.mk (blk_below (g := gb413) (o := .cells #[.int .i64 t409, .int .i64 t410, .string t411] 26 (0, 0)) (zB BK413.out) hb); have n3_ := Aside0.mk (blk_below (g := gb418) (o := .cells #[.int .i64 t414, .int .i64 t415, .string t416] 26 (0, 0)) (zB BK418.out) hb); have n4_ := Aside0.mk (blk_below (g := gb423) (o := .cells #[.int .i64 t419, .int .i64 t420, .string t421] 26 (0, 0)) (zB BK423.out) hb); have n5_ := Aside0.mk (below_step (by repeat first | with_reducible exact HB.out | refine zS ?_ | refine below_set ?_ GE413.out | refine below_set ?_ GE418.out | refine below_set ?_ GE423.out | exact HB.out) hb); have n6_ := Aside0.mk (hbox); have n7_ := Aside0.mk ((by rw [hg]; exact (below_size (by repeat first | with_reducible exact HB.out | refine zS ?_ | refine below_set ?_ GE413.out | refine below_set ?_ GE418.out | refine below_set ?_ GE423.out | exact HB.out)) : w.heap.size ≤ gb439)); have n8_ := n7_; have n9_ := Aside0.mk ((by rw [hg]; exact Nat.ne_of_lt (blk_lt (g := gb413) (o := .cells #[.int .i64 t409, .int .i64 t410, .string t411] 26 (0, 0)) (zB BK413.out)) : gb413 ≠ gb439)); have n10_ := Aside0.mk ((by rw [hg]; exact Nat.ne_of_gt (blk_lt (g := gb413) (o := .cells #[.int .i64 t409, .int .i64 t410, .string t411] 26 (0, 0)) (zB BK413.out)) : gb439 ≠ gb413)); have n11_ := Aside0.mk ((by rw [hg]; exact Nat.ne_of_lt (blk_lt (g := gb418) (o := .cells #[.int .i64 t414, .int .i64 t415, .string t416] 26 (0, 0)) (zB BK418.out)) : gb418 ≠ gb439)); have n12_ := Aside0.mk ((by rw [hg]; exact Nat.ne_of_gt (blk_lt (g := gb418) (o := .cells #[.int .i64 t414, .int .i64 t415, .string t416] 26 (0, 0)) (zB BK418.out)) : gb439 ≠ gb418)); have n13_ := Aside0.mk ((by rw [hg]; exact Nat.ne_of_lt (blk_lt (g := gb423) (o := .cells #[.int .i64 t419, .int .i64 t420, .string t421] 26 (0, 0)) (zB BK423.out)) : gb423 ≠ gb439)); have n14_ := Aside0.mk ((by rw [hg]; exact Nat.ne_of_gt (blk_lt (g := gb423) (o := .cells #[.int .i64 t419, .int .i64 t420, .string t421] 26 (0, 0)) (zB BK423.out)) : gb439 ≠ gb423)); clear HO408; clear HO435; clear BK413; clear BK418; clear BK423; clear HB; have HO408 := n0_; have HO435 := n1_; have BK413 := n2_; have BK418 := n3_; have BK423 := n4_; have HB := n5_; have BK439 := n6_; have GW439 := n7_; have GE439 := n8_; have NB413_439 := n9_; have NB439_413 := n10_; have NB418_439 := n11_; have NB439_418 := n12_; have NB423_439 := n13_; have NB439_423 := n14_; clear n0_ n1_ n2_ n3_ n4_ n5_ n6_ n7_ n8_ n9_ n10_ n11_ n12_ n13_ n14_; clear hb hbox hg; have hnb39 := NB439_413.out; have hnc39 := NB413_439.out; have hnb40 := NB439_418.out; have hnc40 := NB418_439.out; have hnb41 := NB439_423.out; have hnc41 := NB423_439.out; obtain ⟨hcz42_0, hcz42_1, hcz42_2, hfz42_0, hfz42_1, hfz42_2⟩ := zC3 BK439.out; obtain ⟨hcz43_0, hcz43_1, hcz43_2, hfz43_0, hfz43_1, hfz43_2⟩ := zC3 BK413.out; obtain ⟨hcz44_0, hcz44_1, hcz44_2, hfz44_0, hfz44_1, hfz44_2⟩ := zC3 BK418.out))
              go_ret
              exact ⟨by first | rfl | (simp [errW_none, errW_some] <;> rfl) | (simp [*, errW_none, errW_some] <;> rfl), by repeat first | with_reducible exact HB.out | refine zS ?_ | refine below_set ?_ GE413.out | refine below_set ?_ GE418.out | refine below_set ?_ GE423.out | refine below_set ?_ GE439.out | exact HB.out⟩
            · rw [if_neg c14] at H
              exact absurd H (by simp)
          · rw [if_neg c13] at H
            exact absurd H (by simp)
        · rw [if_neg c12] at H
          exact absurd H (by simp)
    · replace c10 := Bool.eq_false_iff.mpr c10
      subst c10
      have H1 : (none) = some r := by rw [if_neg (show ¬ (false = true) by decide)] at H; exact H
      clear H
      have H := H1
      clear H1
      exact absurd H (by simp)
  · replace c9 := Bool.eq_false_iff.mpr c9
    subst c9
    have H1 : (none) = some r := by rw [if_neg (show ¬ (false = true) by decide)] at H; exact H
    clear H
    have H := H1
    clear H1
    exact absurd H (by simp)
end Go.Proofs.YtmdmpafdpgdpoaaGreatDoor.P

namespace Go.Proofs.YtmdmpafdpgdpoaaGreatDoor.P
open Go.RowKit Go.Proofs.YtmdmpafdpgdpoaaGreatDoorW.PrintWords Go.Proofs.YtmdmpafdpgdpoaaGreatDoorW.PrintLast Go.Proofs.YtmdmpafdpgdpoaaGreatDoorW.PrintMore
attribute [local go_sem] max2_int min2_int max_two min_two max_three min_three max_four min_four   -- for this text's walks alone
set_option linter.unusedVariables false
set_option linter.unusedSimpArgs false
def pannierref10_full.l0 : Nat → List (S26) → List (S26) → Int → Option ((List (S26)))
  | 0, _, _, _ => none
  | k + 1, x0, x3, x4 => if x4 < (x0.length : Int) then (if 0 ≤ x4 then (if ((rd_T26 x0 x4).f0) = 0 then (pannierref10_full.l0 k x0 x3 (wrap64 (x4 + 1))) else (if x3.length < 4398046511104 then (pannierref10_full.l0 k x0 (x3 ++ [(⟨(rd_T26 x0 x4).f0, (rd_T26 x0 x4).f1, (rd_T26 x0 x4).f2⟩ : S26)]) (wrap64 (x4 + 1))) else (none))) else (none)) else (some x3)
def pannierref10_full.f (k : Nat) (l0 : List (S26)) : Option ((List (S26))) := pannierref10_full.l0 k l0 ([] : List (S26)) 0
set_option maxHeartbeats 8000000 in
set_option maxRecDepth 100000 in
theorem pannierref10_full.calls (k : Nat) (A0 : Option Addr) (c0 : Nat) (l0 : List (S26)) (r : List (S26)) (w : World) (hr0 : Kd.C k26 w A0 l0.length l0) (hc0 : l0.length ≤ c0) (h : pannierref10_full.f k l0 = some r) :
    Calls Tryz.prog 28 #[.slice A0 l0.length c0] w fun e w' => ∃ v0_ : Value, e = .returned (v0_) ∧ Kd.R k26 26 w' w.heap.size (fun _ => True) v0_ r ∧ Below w.heap.size w w' := by
  have hu26 := Tryz.underlying26
  have HR0 := Aside0.mk hr0
  have HC0 := Aside0.mk hc0
  clear hr0 hc0
  have HB := Aside0.mk (Below.refl w.heap.size w)
  have H : (pannierref10_full.l0 k l0 ([] : List (S26)) 0) = some r := h
  clear h
  have H' := Aside0.mk H
  clear H
  go_enter Tryz.func28, Tryz.ntmps28
  go_wp2
  go_loopg [3, 4] k (fun kq v3 v4 w' => ∃ (x3_1 : List (S26)) (x4_1 : Int), v4 = .int .i64 x4_1 ∧ Aside0 (pannierref10_full.l0 kq l0 x3_1 x4_1 = some r) ∧ Aside0 (kq ≤ k) ∧ Aside0 (Kd.R k26 26 w' w.heap.size (fun _ => True) v3 x3_1) ∧ Aside0 (Below w.heap.size w w'))
  case atStart => exact ⟨(([] : List (S26))), (0), (by first | rfl | (simp; done) | (simp [*]; done)), H', ⟨Nat.le_refl _⟩, ⟨by first | exact Kd.R_nil _ _ _ _ _ | exact Kd.N_nil _ _ _ _ _ | exact Kd.V_nil _ _ _ _ _ | exact Kd.Q_nil _ _ _ _ _ | exact Kd.S_nil _ _ _ _ _⟩, ⟨by repeat first | with_reducible exact HB.out | refine zS ?_ | exact HB.out⟩⟩
  case round =>
    clear H'
    obtain ⟨x3_1, x4_1, rfl, HA, HK1, HO_3, HB⟩ := hrel
    cases gk with
    | zero => exact absurd HA.out (by simp [pannierref10_full.l0])
    | succ k1 =>
      have H := HA.out
      clear HA
      simp only [pannierref10_full.l0] at H
      by_cases c2 : x4_1 < (l0.length : Int)
      · rw [if_pos c2] at H
        have c2b0 : decide (x4_1 < (l0.length : Int)) = true := decide_eq_true c2
        clear c2
        by_cases c3 : 0 ≤ x4_1
        · rw [if_pos c3] at H
          have c3b0 : decide (0 ≤ x4_1) = true := decide_eq_true c3
          clear c3
          by_cases c4 : ((rd_T26 l0 x4_1).f0) = 0
          · rw [if_pos c4] at H
            have c4b0 : (((rd_T26 l0 x4_1).f0) == 0) = true := beq_iff_eq.mpr c4
            have c4b1 : (((rd_T26 l0 x4_1).f0) != 0) = false := bne_eq_false_iff_eq.mpr c4
            clear c4
            have H' := Aside0.mk H
            clear H
            have p210 : 0 ≤ (x4_1 : Int) := of_decide_eq_true (by first | (with_reducible assumption) | assumption)
            have q210 : x4_1 < (l0.length : Int) := of_decide_eq_true (by first | (with_reducible assumption) | assumption)
            obtain ⟨ad210, e210, hx210_0, hx210_1, hx210_2⟩ := at_T26 HR0.out x4_1 p210 q210
            cases e210
            replace hx210_0 := (HB.out.cell (World.block_lt_of_cell? w _ hx210_0)).trans hx210_0
            replace hx210_1 := (HB.out.cell (World.block_lt_of_cell? w _ hx210_1)).trans hx210_1
            replace hx210_2 := (HB.out.cell (World.block_lt_of_cell? w _ hx210_2)).trans hx210_2
            replace p210 := eq_true p210
            replace q210 := eq_true q210
            go_wp2
            go_roundg k1
            case measure => have := HK1.out; omega
            case rel => exact ⟨(x3_1), (wrap64 (x4_1 + 1)), (by first | rfl | (simp; done) | (simp [*]; done)), H', ⟨by have := HK1.out; omega⟩, ⟨by (with_reducible repeat (first | apply Kd.R_alloc | apply Kd.R_drewN | apply Kd.R_drew)); exact HO_3.out⟩, ⟨by repeat first | with_reducible exact HB.out | refine zS ?_ | exact HB.out⟩⟩
          · rw [if_neg c4] at H
            have c4b0 : (((rd_T26 l0 x4_1).f0) == 0) = false := beq_eq_false_iff_ne.mpr c4
            have c4b1 : (((rd_T26 l0 x4_1).f0) != 0) = true := bne_iff_ne.mpr c4
            by_cases c5 : x3_1.length < 4398046511104
            · rw [if_pos c5] at H
              have LMc5 := Aside0.mk c5
              clear c5
              obtain ⟨y212, hy212⟩ : ∃ y_ : List (S26), y_ = (x3_1 ++ [(⟨(rd_T26 l0 x4_1).f0, (rd_T26 l0 x4_1).f1, (rd_T26 l0 x4_1).f2⟩ : S26)]) := ⟨_, rfl⟩
              replace H : (pannierref10_full.l0 k1 l0 y212 (wrap64 (x4_1 + 1))) = some r := by first | (rw [hy212]; with_reducible exact H) | (have H2_ := (Option.bind_some _ _).symm.trans H; rw [hy212]; with_reducible exact H2_) | (have H2_ := (Option.bind_some _ _).symm.trans H; with_reducible exact H2_) | with_reducible exact H | (rw [hy212]; exact H) | exact H
              have Ny212 := Aside0.mk hy212
              clear hy212
              have H' := Aside0.mk H
              clear H
              have p210 : 0 ≤ (x4_1 : Int) := of_decide_eq_true (by first | (with_reducible assumption) | assumption)
              have q210 : x4_1 < (l0.length : Int) := of_decide_eq_true (by first | (with_reducible assumption) | assumption)
              obtain ⟨ad210, e210, hx210_0, hx210_1, hx210_2⟩ := at_T26 HR0.out x4_1 p210 q210
              cases e210
              replace hx210_0 := (HB.out.cell (World.block_lt_of_cell? w _ hx210_0)).trans hx210_0
              replace hx210_1 := (HB.out.cell (World.block_lt_of_cell? w _ hx210_1)).trans hx210_1
              replace hx210_2 := (HB.out.cell (World.block_lt_of_cell? w _ hx210_2)).trans hx210_2
              replace p210 := eq_true p210
              replace q210 := eq_true q210
              have p211 : 0 ≤ (x4_1 : Int) := of_decide_eq_true (by first | (with_reducible assumption) | assumption)
              have q211 : x4_1 < (l0.length : Int) := of_decide_eq_true (by first | (with_reducible assumption) | assumption)
              obtain ⟨ad211, e211, hx211_0, hx211_1, hx211_2⟩ := at_T26 HR0.out x4_1 p211 q211
              obtain rfl : ad210 = ad211 := (by injection e211)
              replace hx211_0 := (HB.out.cell (World.block_lt_of_cell? w _ hx211_0)).trans hx211_0
              replace hx211_1 := (HB.out.cell (World.block_lt_of_cell? w _ hx211_1)).trans hx211_1
              replace hx211_2 := (HB.out.cell (World.block_lt_of_cell? w _ hx211_2)).trans hx211_2
              replace p211 := eq_true p211
              replace q211 := eq_true q211
              go_wp2_with (first | ((with_reducible refine gate_builtin (b := .append) (xs := #[.tmp 17, .tmp 22]) rfl ?_); at_builtin; refine Kd.R_append k26 (w0 := w) w.heap.size rfl (.tmp 17) (.tmp 22) 22 26 (.agg #[(.int .i64 0), (.int .i64 0), (.string ⟨#[]⟩)]) 32 rfl Tryz.underlying22 info26 rfl (by decide) (by omega) u3 x3_1 (⟨(rd_T26 l0 x4_1).f0, (rd_T26 l0 x4_1).f1, (rd_T26 l0 x4_1).f2⟩ : S26) [.int .i64 ((rd_T26 l0 x4_1).f0), .int .i64 ((rd_T26 l0 x4_1).f1), .string ((rd_T26 l0 x4_1).f2)] (fun _ => True) (fun _ => False) rfl rfl ?aP (fun _ hk => hk.elim) ?aF ?aO ?aB ?aS ?aL ?_; (case aP => exact k26_mkM _ _ _ (⟨(rd_T26 l0 x4_1).f0, (rd_T26 l0 x4_1).f1, (rd_T26 l0 x4_1).f2⟩ : S26)); (case aB => exact (by repeat first | with_reducible exact HB.out | refine zS ?_ | exact HB.out)); (case aF => exact (fun _ _ => trivial)); (case aO => exact (by (with_reducible repeat (first | apply Kd.R_alloc | apply Kd.R_drewN | apply Kd.R_drew)); exact HO_3.out)); (case aS => exact (below_size (by repeat first | with_reducible exact HB.out | refine zS ?_ | exact HB.out))); (case aL => have := LMc5.out; omega); intro v213 w6 ho hb hg hat; rw [← Ny212.out] at ho; have n0_ := Aside0.mk (hb); have n1_ := Aside0.mk (ho); clear HB; clear HO_3; have HB := n0_; have HO214 := n1_; clear n0_ n1_; clear ho hb hg hat))
              go_roundg k1
              case measure => have := HK1.out; omega
              case rel => exact ⟨(y212), (wrap64 (x4_1 + 1)), (by first | rfl | (simp; done) | (simp [*]; done)), H', ⟨by have := HK1.out; omega⟩, ⟨by (with_reducible repeat (first | apply Kd.R_alloc | apply Kd.R_drewN | apply Kd.R_drew)); exact HO214.out⟩, ⟨by repeat first | with_reducible exact HB.out | refine zS ?_ | exact HB.out⟩⟩
            · rw [if_neg c5] at H
              exact absurd H (by simp)
        · rw [if_neg c3] at H
          exact absurd H (by simp)
      · rw [if_neg c2] at H
        have c2b0 : decide (x4_1 < (l0.length : Int)) = false := decide_eq_false c2
        clear c2
        obtain rfl := Option.some.inj H
        go_wp2
        go_ret
        exact ⟨_, by first | rfl | (simp [errW_none, errW_some] <;> rfl) | (simp [*, errW_none, errW_some] <;> rfl), by (with_reducible repeat (first | apply Kd.R_alloc | apply Kd.R_drewN | apply Kd.R_drew)); exact HO_3.out, by repeat first | with_reducible exact HB.out | refine zS ?_ | exact HB.out⟩
end Go.Proofs.YtmdmpafdpgdpoaaGreatDoor.P

namespace Go.Proofs.YtmdmpafdpgdpoaaGreatDoor.P
open Go.RowKit Go.Proofs.YtmdmpafdpgdpoaaGreatDoorW.PrintWords Go.Proofs.YtmdmpafdpgdpoaaGreatDoorW.PrintLast Go.Proofs.YtmdmpafdpgdpoaaGreatDoorW.PrintMore
attribute [local go_sem] max2_int min2_int max_two min_two max_three min_three max_four min_four   -- for this text's walks alone
set_option linter.unusedVariables false
set_option linter.unusedSimpArgs false
def pannierref10_num.f (a0 : Int) : Option (Int × Int × ByteArray × Bool) := some (2, a0, (⟨#[]⟩ : ByteArray), true)
set_option maxHeartbeats 8000000 in
set_option maxRecDepth 100000 in
theorem pannierref10_num.calls (a0 : Int) (r1 : Int) (r2 : Int) (r3 : ByteArray) (r4 : Bool) (w : World) (h : pannierref10_num.f a0 = some (r1, r2, r3, r4)) :
    Calls Tryz.prog 33 #[.int .i64 a0] w fun e w' => e = .returned (.agg #[.int .i64 r1, .int .i64 r2, .string r3, .bool r4]) ∧ Below w.heap.size w w' := by
  have hu30 := Tryz.underlying30
  have hu26 := Tryz.underlying26
  have HB := Aside0.mk (Below.refl w.heap.size w)
  have H : (some (2, a0, (⟨#[]⟩ : ByteArray), true)) = some (r1, r2, r3, r4) := h
  clear h
  simp only [Option.some.injEq, Prod.mk.injEq] at H
  obtain ⟨rfl, rfl, rfl, rfl⟩ := H
  go_enter Tryz.func33, Tryz.ntmps33
  go_wp2_with (first | ((with_reducible refine gate_dst (N := 2) rfl ?_); refine box_event ?hg (N := 2) ?hd (cs := #[.int .i64 0, .int .i64 0, .string (⟨#[]⟩ : ByteArray), .bool false]) (t := 30) ?hr ?_; (case hd => rfl); (case hg => rfl); (case hr => first | (go_simp; done) | (go_simp; rfl)); intro gb215 hg w2 hbox hb; have n0_ := Aside0.mk (below_step (by repeat first | with_reducible exact HB.out | refine zS ?_ | exact HB.out) hb); have n1_ := Aside0.mk (hbox); have n2_ := Aside0.mk ((by rw [hg]; exact (below_size (by repeat first | with_reducible exact HB.out | refine zS ?_ | exact HB.out)) : w.heap.size ≤ gb215)); have n3_ := n2_; clear HB; have HB := n0_; have BK215 := n1_; have GW215 := n2_; have GE215 := n3_; clear n0_ n1_ n2_ n3_; clear hb hbox hg; obtain ⟨hcz3_0, hcz3_1, hcz3_2, hcz3_3, hfz3_0, hfz3_1, hfz3_2, hfz3_3⟩ := zC4 BK215.out))
  refine bodyPost_ret (results_cell_row rfl _ _ gb215 30 #[.int .i64 2, .int .i64 a0, .string (⟨#[]⟩ : ByteArray), .bool true] (0, 0) _ rfl (by refine zB ?_; refine blk_put (cs := #[.int .i64 2, .int .i64 a0, .string (⟨#[]⟩ : ByteArray), .bool false]) ?_ 3 _ rfl; refine zB ?_; refine blk_put (cs := #[.int .i64 2, .int .i64 a0, .string (⟨#[]⟩ : ByteArray), .bool false]) ?_ 2 _ rfl; refine zB ?_; refine blk_put (cs := #[.int .i64 2, .int .i64 0, .string (⟨#[]⟩ : ByteArray), .bool false]) ?_ 1 _ rfl; refine zB ?_; refine blk_put (cs := #[.int .i64 0, .int .i64 0, .string (⟨#[]⟩ : ByteArray), .bool false]) ?_ 0 _ rfl; refine zB ?_; exact BK215.out) Tryz.underlying30 rfl (by kernel_rfl)) rfl ?_
  exact ⟨by first | rfl | (simp [errW_none, errW_some] <;> rfl) | (simp [*, errW_none, errW_some] <;> rfl), by repeat first | with_reducible exact HB.out | refine zS ?_ | refine below_set ?_ GE215.out | exact HB.out⟩
end Go.Proofs.YtmdmpafdpgdpoaaGreatDoor.P

namespace Go.Proofs.YtmdmpafdpgdpoaaGreatDoor.P
open Go.RowKit Go.Proofs.YtmdmpafdpgdpoaaGreatDoorW.PrintWords Go.Proofs.YtmdmpafdpgdpoaaGreatDoorW.PrintLast Go.Proofs.YtmdmpafdpgdpoaaGreatDoorW.PrintMore
attribute [local go_sem] max2_int min2_int max_two min_two max_three min_three max_four min_four   -- for this text's walks alone
set_option linter.unusedVariables false
set_option linter.unusedSimpArgs false
def pannierref03_Good.f (a0_0 : Int) (a0_1 : Int) (a0_2 : ByteArray) : Option (Bool) := if a0_0 = 0 then (if a0_1 = 0 then (some (a0_2.toList == ([] : List UInt8))) else (some false)) else (if a0_0 = 1 then (if a0_1 = 0 then (some (a0_2.toList == ([] : List UInt8))) else (if a0_1 = 1 then (some (a0_2.toList == ([] : List UInt8))) else (some false))) else (if a0_0 = 2 then (some (a0_2.toList == ([] : List UInt8))) else (if a0_0 = 3 then (if a0_1 = 0 then (some (decide ((a0_2.size : Int) ≤ 200))) else (some false)) else (if a0_0 = 4 then (if a0_1 ≥ 1 then (if a0_1 ≤ 8 then (some (a0_2.toList == ([] : List UInt8))) else (some false)) else (some false)) else (some false)))))
set_option maxHeartbeats 8000000 in
set_option maxRecDepth 100000 in
theorem pannierref03_Good.calls (a0_0 : Int) (a0_1 : Int) (a0_2 : ByteArray) (r : Bool) (w : World) (h : pannierref03_Good.f a0_0 a0_1 a0_2 = some r) :
    Calls Tryz.prog 66 #[.agg #[.int .i64 a0_0, .int .i64 a0_1, .string a0_2]] w fun e w' => e = .returned (.bool r) ∧ Below w.heap.size w w' := by
  have hu26 := Tryz.underlying26
  have HB := Aside0.mk (Below.refl w.heap.size w)
  have H : (if a0_0 = 0 then (if a0_1 = 0 then (some (a0_2.toList == ([] : List UInt8))) else (some false)) else (if a0_0 = 1 then (if a0_1 = 0 then (some (a0_2.toList == ([] : List UInt8))) else (if a0_1 = 1 then (some (a0_2.toList == ([] : List UInt8))) else (some false))) else (if a0_0 = 2 then (some (a0_2.toList == ([] : List UInt8))) else (if a0_0 = 3 then (if a0_1 = 0 then (some (decide ((a0_2.size : Int) ≤ 200))) else (some false)) else (if a0_0 = 4 then (if a0_1 ≥ 1 then (if a0_1 ≤ 8 then (some (a0_2.toList == ([] : List UInt8))) else (some false)) else (some false)) else (some false)))))) = some r := h
  clear h
  by_cases c2 : a0_0 = 0
  · rw [if_pos c2] at H
    have c2b0 : (a0_0 == 0) = true := beq_iff_eq.mpr c2
    have c2b1 : (a0_0 != 0) = false := bne_eq_false_iff_eq.mpr c2
    clear c2
    by_cases c3 : a0_1 = 0
    · rw [if_pos c3] at H
      have c3b0 : (a0_1 == 0) = true := beq_iff_eq.mpr c3
      have c3b1 : (a0_1 != 0) = false := bne_eq_false_iff_eq.mpr c3
      clear c3
      obtain rfl := Option.some.inj H
      go_enter Tryz.func66, Tryz.ntmps66
      go_wp2_with (first | ((with_reducible refine gate_dst (N := 1) rfl ?_); (try (refine gate_guard (by rfl) ?_; dsimp only)); refine box_event ?hg (N := 1) ?hd (cs := #[.int .i64 a0_0, .int .i64 a0_1, .string a0_2]) (t := 26) ?hr ?_; (case hd => rfl); (case hg => rfl); (case hr => first | (go_simp; done) | (go_simp; rfl)); intro gb216 hg w4 hbox hb; have n0_ := Aside0.mk (below_step (by repeat first | with_reducible exact HB.out | refine zS ?_ | exact HB.out) hb); have n1_ := Aside0.mk (hbox); have n2_ := Aside0.mk ((by rw [hg]; exact (below_size (by repeat first | with_reducible exact HB.out | refine zS ?_ | exact HB.out)) : w.heap.size ≤ gb216)); have n3_ := n2_; clear HB; have HB := n0_; have BK216 := n1_; have GW216 := n2_; have GE216 := n3_; clear n0_ n1_ n2_ n3_; clear hb hbox hg; obtain ⟨hcz5_0, hcz5_1, hcz5_2, hfz5_0, hfz5_1, hfz5_2⟩ := zC3 BK216.out))
      go_ret
      exact ⟨by first | rfl | (simp [errW_none, errW_some] <;> rfl) | (simp [*, errW_none, errW_some] <;> rfl), by repeat first | with_reducible exact HB.out | refine zS ?_ | refine below_set ?_ GE216.out | exact HB.out⟩
    · rw [if_neg c3] at H
      have c3b0 : (a0_1 == 0) = false := beq_eq_false_iff_ne.mpr c3
      have c3b1 : (a0_1 != 0) = true := bne_iff_ne.mpr c3
      obtain rfl := Option.some.inj H
      go_enter Tryz.func66, Tryz.ntmps66
      go_wp2_with (first | ((with_reducible refine gate_dst (N := 1) rfl ?_); (try (refine gate_guard (by rfl) ?_; dsimp only)); refine box_event ?hg (N := 1) ?hd (cs := #[.int .i64 a0_0, .int .i64 a0_1, .string a0_2]) (t := 26) ?hr ?_; (case hd => rfl); (case hg => rfl); (case hr => first | (go_simp; done) | (go_simp; rfl)); intro gb216 hg w6 hbox hb; have n0_ := Aside0.mk (below_step (by repeat first | with_reducible exact HB.out | refine zS ?_ | exact HB.out) hb); have n1_ := Aside0.mk (hbox); have n2_ := Aside0.mk ((by rw [hg]; exact (below_size (by repeat first | with_reducible exact HB.out | refine zS ?_ | exact HB.out)) : w.heap.size ≤ gb216)); have n3_ := n2_; clear HB; have HB := n0_; have BK216 := n1_; have GW216 := n2_; have GE216 := n3_; clear n0_ n1_ n2_ n3_; clear hb hbox hg; obtain ⟨hcz7_0, hcz7_1, hcz7_2, hfz7_0, hfz7_1, hfz7_2⟩ := zC3 BK216.out))
      go_ret
      exact ⟨by first | rfl | (simp [errW_none, errW_some] <;> rfl) | (simp [*, errW_none, errW_some] <;> rfl), by repeat first | with_reducible exact HB.out | refine zS ?_ | refine below_set ?_ GE216.out | exact HB.out⟩
  · rw [if_neg c2] at H
    have c2b0 : (a0_0 == 0) = false := beq_eq_false_iff_ne.mpr c2
    have c2b1 : (a0_0 != 0) = true := bne_iff_ne.mpr c2
    by_cases c8 : a0_0 = 1
    · rw [if_pos c8] at H
      have c8b0 : (a0_0 == 1) = true := beq_iff_eq.mpr c8
      have c8b1 : (a0_0 != 1) = false := bne_eq_false_iff_eq.mpr c8
      clear c8
      by_cases c9 : a0_1 = 0
      · rw [if_pos c9] at H
        have c9b0 : (a0_1 == 0) = true := beq_iff_eq.mpr c9
        have c9b1 : (a0_1 != 0) = false := bne_eq_false_iff_eq.mpr c9
        clear c9
        obtain rfl := Option.some.inj H
        go_enter Tryz.func66, Tryz.ntmps66
        go_wp2_with (first | ((with_reducible refine gate_dst (N := 1) rfl ?_); (try (refine gate_guard (by rfl) ?_; dsimp only)); refine box_event ?hg (N := 1) ?hd (cs := #[.int .i64 a0_0, .int .i64 a0_1, .string a0_2]) (t := 26) ?hr ?_; (case hd => rfl); (case hg => rfl); (case hr => first | (go_simp; done) | (go_simp; rfl)); intro gb216 hg w10 hbox hb; have n0_ := Aside0.mk (below_step (by repeat first | with_reducible exact HB.out | refine zS ?_ | exact HB.out) hb); have n1_ := Aside0.mk (hbox); have n2_ := Aside0.mk ((by rw [hg]; exact (below_size (by repeat first | with_reducible exact HB.out | refine zS ?_ | exact HB.out)) : w.heap.size ≤ gb216)); have n3_ := n2_; clear HB; have HB := n0_; have BK216 := n1_; have GW216 := n2_; have GE216 := n3_; clear n0_ n1_ n2_ n3_; clear hb hbox hg; obtain ⟨hcz11_0, hcz11_1, hcz11_2, hfz11_0, hfz11_1, hfz11_2⟩ := zC3 BK216.out))
        go_ret
        exact ⟨by first | rfl | (simp [errW_none, errW_some] <;> rfl) | (simp [*, errW_none, errW_some] <;> rfl), by repeat first | with_reducible exact HB.out | refine zS ?_ | refine below_set ?_ GE216.out | exact HB.out⟩
      · rw [if_neg c9] at H
        have c9b0 : (a0_1 == 0) = false := beq_eq_false_iff_ne.mpr c9
        have c9b1 : (a0_1 != 0) = true := bne_iff_ne.mpr c9
        by_cases c12 : a0_1 = 1
        · rw [if_pos c12] at H
          have c12b0 : (a0_1 == 1) = true := beq_iff_eq.mpr c12
          have c12b1 : (a0_1 != 1) = false := bne_eq_false_iff_eq.mpr c12
          clear c12
          obtain rfl := Option.some.inj H
          go_enter Tryz.func66, Tryz.ntmps66
          go_wp2_with (first | ((with_reducible refine gate_dst (N := 1) rfl ?_); (try (refine gate_guard (by rfl) ?_; dsimp only)); refine box_event ?hg (N := 1) ?hd (cs := #[.int .i64 a0_0, .int .i64 a0_1, .string a0_2]) (t := 26) ?hr ?_; (case hd => rfl); (case hg => rfl); (case hr => first | (go_simp; done) | (go_simp; rfl)); intro gb216 hg w13 hbox hb; have n0_ := Aside0.mk (below_step (by repeat first | with_reducible exact HB.out | refine zS ?_ | exact HB.out) hb); have n1_ := Aside0.mk (hbox); have n2_ := Aside0.mk ((by rw [hg]; exact (below_size (by repeat first | with_reducible exact HB.out | refine zS ?_ | exact HB.out)) : w.heap.size ≤ gb216)); have n3_ := n2_; clear HB; have HB := n0_; have BK216 := n1_; have GW216 := n2_; have GE216 := n3_; clear n0_ n1_ n2_ n3_; clear hb hbox hg; obtain ⟨hcz14_0, hcz14_1, hcz14_2, hfz14_0, hfz14_1, hfz14_2⟩ := zC3 BK216.out))
          go_ret
          exact ⟨by first | rfl | (simp [errW_none, errW_some] <;> rfl) | (simp [*, errW_none, errW_some] <;> rfl), by repeat first | with_reducible exact HB.out | refine zS ?_ | refine below_set ?_ GE216.out | exact HB.out⟩
        · rw [if_neg c12] at H
          have c12b0 : (a0_1 == 1) = false := beq_eq_false_iff_ne.mpr c12
          have c12b1 : (a0_1 != 1) = true := bne_iff_ne.mpr c12
          obtain rfl := Option.some.inj H
          go_enter Tryz.func66, Tryz.ntmps66
          go_wp2_with (first | ((with_reducible refine gate_dst (N := 1) rfl ?_); (try (refine gate_guard (by rfl) ?_; dsimp only)); refine box_event ?hg (N := 1) ?hd (cs := #[.int .i64 a0_0, .int .i64 a0_1, .string a0_2]) (t := 26) ?hr ?_; (case hd => rfl); (case hg => rfl); (case hr => first | (go_simp; done) | (go_simp; rfl)); intro gb216 hg w15 hbox hb; have n0_ := Aside0.mk (below_step (by repeat first | with_reducible exact HB.out | refine zS ?_ | exact HB.out) hb); have n1_ := Aside0.mk (hbox); have n2_ := Aside0.mk ((by rw [hg]; exact (below_size (by repeat first | with_reducible exact HB.out | refine zS ?_ | exact HB.out)) : w.heap.size ≤ gb216)); have n3_ := n2_; clear HB; have HB := n0_; have BK216 := n1_; have GW216 := n2_; have GE216 := n3_; clear n0_ n1_ n2_ n3_; clear hb hbox hg; obtain ⟨hcz16_0, hcz16_1, hcz16_2, hfz16_0, hfz16_1, hfz16_2⟩ := zC3 BK216.out))
          go_ret
          exact ⟨by first | rfl | (simp [errW_none, errW_some] <;> rfl) | (simp [*, errW_none, errW_some] <;> rfl), by repeat first | with_reducible exact HB.out | refine zS ?_ | refine below_set ?_ GE216.out | exact HB.out⟩
    · rw [if_neg c8] at H
      have c8b0 : (a0_0 == 1) = false := beq_eq_false_iff_ne.mpr c8
      have c8b1 : (a0_0 != 1) = true := bne_iff_ne.mpr c8
      by_cases c17 : a0_0 = 2
      · rw [if_pos c17] at H
        have c17b0 : (a0_0 == 2) = true := beq_iff_eq.mpr c17
        have c17b1 : (a0_0 != 2) = false := bne_eq_false_iff_eq.mpr c17
        clear c17
        obtain rfl := Option.some.inj H
        go_enter Tryz.func66, Tryz.ntmps66
        go_wp2_with (first | ((with_reducible refine gate_dst (N := 1) rfl ?_); (try (refine gate_guard (by rfl) ?_; dsimp only)); refine box_event ?hg (N := 1) ?hd (cs := #[.int .i64 a0_0, .int .i64 a0_1, .string a0_2]) (t := 26) ?hr ?_; (case hd => rfl); (case hg => rfl); (case hr => first | (go_simp; done) | (go_simp; rfl)); intro gb216 hg w18 hbox hb; have n0_ := Aside0.mk (below_step (by repeat first | with_reducible exact HB.out | refine zS ?_ | exact HB.out) hb); have n1_ := Aside0.mk (hbox); have n2_ := Aside0.mk ((by rw [hg]; exact (below_size (by repeat first | with_reducible exact HB.out | refine zS ?_ | exact HB.out)) : w.heap.size ≤ gb216)); have n3_ := n2_; clear HB; have HB := n0_; have BK216 := n1_; have GW216 := n2_; have GE216 := n3_; clear n0_ n1_ n2_ n3_; clear hb hbox hg; obtain ⟨hcz19_0, hcz19_1, hcz19_2, hfz19_0, hfz19_1, hfz19_2⟩ := zC3 BK216.out))
        go_ret
        exact ⟨by first | rfl | (simp [errW_none, errW_some] <;> rfl) | (simp [*, errW_none, errW_some] <;> rfl), by repeat first | with_reducible exact HB.out | refine zS ?_ | refine below_set ?_ GE216.out | exact HB.out⟩
      · rw [if_neg c17] at H
        have c17b0 : (a0_0 == 2) = false := beq_eq_false_iff_ne.mpr c17
        have c17b1 : (a0_0 != 2) = true := bne_iff_ne.mpr c17
        by_cases c20 : a0_0 = 3
        · rw [if_pos c20] at H
          have c20b0 : (a0_0 == 3) = true := beq_iff_eq.mpr c20
          have c20b1 : (a0_0 != 3) = false := bne_eq_false_iff_eq.mpr c20
          clear c20
          by_cases c21 : a0_1 = 0
          · rw [if_pos c21] at H
            have c21b0 : (a0_1 == 0) = true := beq_iff_eq.mpr c21
            have c21b1 : (a0_1 != 0) = false := bne_eq_false_iff_eq.mpr c21
            clear c21
            obtain rfl := Option.some.inj H
            go_enter Tryz.func66, Tryz.ntmps66
            go_wp2_with (first | ((with_reducible refine gate_dst (N := 1) rfl ?_); (try (refine gate_guard (by rfl) ?_; dsimp only)); refine box_event ?hg (N := 1) ?hd (cs := #[.int .i64 a0_0, .int .i64 a0_1, .string a0_2]) (t := 26) ?hr ?_; (case hd => rfl); (case hg => rfl); (case hr => first | (go_simp; done) | (go_simp; rfl)); intro gb216 hg w22 hbox hb; have n0_ := Aside0.mk (below_step (by repeat first | with_reducible exact HB.out | refine zS ?_ | exact HB.out) hb); have n1_ := Aside0.mk (hbox); have n2_ := Aside0.mk ((by rw [hg]; exact (below_size (by repeat first | with_reducible exact HB.out | refine zS ?_ | exact HB.out)) : w.heap.size ≤ gb216)); have n3_ := n2_; clear HB; have HB := n0_; have BK216 := n1_; have GW216 := n2_; have GE216 := n3_; clear n0_ n1_ n2_ n3_; clear hb hbox hg; obtain ⟨hcz23_0, hcz23_1, hcz23_2, hfz23_0, hfz23_1, hfz23_2⟩ := zC3 BK216.out))
            go_ret
            exact ⟨by first | rfl | (simp [errW_none, errW_some] <;> rfl) | (simp [*, errW_none, errW_some] <;> rfl), by repeat first | with_reducible exact HB.out | refine zS ?_ | refine below_set ?_ GE216.out | exact HB.out⟩
          · rw [if_neg c21] at H
            have c21b0 : (a0_1 == 0) = false := beq_eq_false_iff_ne.mpr c21
            have c21b1 : (a0_1 != 0) = true := bne_iff_ne.mpr c21
            obtain rfl := Option.some.inj H
            go_enter Tryz.func66, Tryz.ntmps66
            go_wp2_with (first | ((with_reducible refine gate_dst (N := 1) rfl ?_); (try (refine gate_guard (by rfl) ?_; dsimp only)); refine box_event ?hg (N := 1) ?hd (cs := #[.int .i64 a0_0, .int .i64 a0_1, .string a0_2]) (t := 26) ?hr ?_; (case hd => rfl); (case hg => rfl); (case hr => first | (go_simp; done) | (go_simp; rfl)); intro gb216 hg w24 hbox hb; have n0_ := Aside0.mk (below_step (by repeat first | with_reducible exact HB.out | refine zS ?_ | exact HB.out) hb); have n1_ := Aside0.mk (hbox); have n2_ := Aside0.mk ((by rw [hg]; exact (below_size (by repeat first | with_reducible exact HB.out | refine zS ?_ | exact HB.out)) : w.heap.size ≤ gb216)); have n3_ := n2_; clear HB; have HB := n0_; have BK216 := n1_; have GW216 := n2_; have GE216 := n3_; clear n0_ n1_ n2_ n3_; clear hb hbox hg; obtain ⟨hcz25_0, hcz25_1, hcz25_2, hfz25_0, hfz25_1, hfz25_2⟩ := zC3 BK216.out))
            go_ret
            exact ⟨by first | rfl | (simp [errW_none, errW_some] <;> rfl) | (simp [*, errW_none, errW_some] <;> rfl), by repeat first | with_reducible exact HB.out | refine zS ?_ | refine below_set ?_ GE216.out | exact HB.out⟩
        · rw [if_neg c20] at H
          have c20b0 : (a0_0 == 3) = false := beq_eq_false_iff_ne.mpr c20
          have c20b1 : (a0_0 != 3) = true := bne_iff_ne.mpr c20
          by_cases c26 : a0_0 = 4
          · rw [if_pos c26] at H
            have c26b0 : (a0_0 == 4) = true := beq_iff_eq.mpr c26
            have c26b1 : (a0_0 != 4) = false := bne_eq_false_iff_eq.mpr c26
            clear c26
            by_cases c27 : a0_1 ≥ 1
            · rw [if_pos c27] at H
              have c27b0 : decide (1 ≤ a0_1) = true := decide_eq_true c27
              clear c27
              by_cases c28 : a0_1 ≤ 8
              · rw [if_pos c28] at H
                have c28b0 : decide (a0_1 ≤ 8) = true := decide_eq_true c28
                clear c28
                obtain rfl := Option.some.inj H
                go_enter Tryz.func66, Tryz.ntmps66
                go_wp2_with (first | ((with_reducible refine gate_dst (N := 1) rfl ?_); (try (refine gate_guard (by rfl) ?_; dsimp only)); refine box_event ?hg (N := 1) ?hd (cs := #[.int .i64 a0_0, .int .i64 a0_1, .string a0_2]) (t := 26) ?hr ?_; (case hd => rfl); (case hg => rfl); (case hr => first | (go_simp; done) | (go_simp; rfl)); intro gb216 hg w29 hbox hb; have n0_ := Aside0.mk (below_step (by repeat first | with_reducible exact HB.out | refine zS ?_ | exact HB.out) hb); have n1_ := Aside0.mk (hbox); have n2_ := Aside0.mk ((by rw [hg]; exact (below_size (by repeat first | with_reducible exact HB.out | refine zS ?_ | exact HB.out)) : w.heap.size ≤ gb216)); have n3_ := n2_; clear HB; have HB := n0_; have BK216 := n1_; have GW216 := n2_; have GE216 := n3_; clear n0_ n1_ n2_ n3_; clear hb hbox hg; obtain ⟨hcz30_0, hcz30_1, hcz30_2, hfz30_0, hfz30_1, hfz30_2⟩ := zC3 BK216.out))
                go_ret
                exact ⟨by first | rfl | (simp [errW_none, errW_some] <;> rfl) | (simp [*, errW_none, errW_some] <;> rfl), by repeat first | with_reducible exact HB.out | refine zS ?_ | refine below_set ?_ GE216.out | exact HB.out⟩
              · rw [if_neg c28] at H
                have c28b0 : decide (a0_1 ≤ 8) = false := decide_eq_false c28
                clear c28
                obtain rfl := Option.some.inj H
                go_enter Tryz.func66, Tryz.ntmps66
                go_wp2_with (first | ((with_reducible refine gate_dst (N := 1) rfl ?_); (try (refine gate_guard (by rfl) ?_; dsimp only)); refine box_event ?hg (N := 1) ?hd (cs := #[.int .i64 a0_0, .int .i64 a0_1, .string a0_2]) (t := 26) ?hr ?_; (case hd => rfl); (case hg => rfl); (case hr => first | (go_simp; done) | (go_simp; rfl)); intro gb216 hg w31 hbox hb; have n0_ := Aside0.mk (below_step (by repeat first | with_reducible exact HB.out | refine zS ?_ | exact HB.out) hb); have n1_ := Aside0.mk (hbox); have n2_ := Aside0.mk ((by rw [hg]; exact (below_size (by repeat first | with_reducible exact HB.out | refine zS ?_ | exact HB.out)) : w.heap.size ≤ gb216)); have n3_ := n2_; clear HB; have HB := n0_; have BK216 := n1_; have GW216 := n2_; have GE216 := n3_; clear n0_ n1_ n2_ n3_; clear hb hbox hg; obtain ⟨hcz32_0, hcz32_1, hcz32_2, hfz32_0, hfz32_1, hfz32_2⟩ := zC3 BK216.out))
                go_ret
                exact ⟨by first | rfl | (simp [errW_none, errW_some] <;> rfl) | (simp [*, errW_none, errW_some] <;> rfl), by repeat first | with_reducible exact HB.out | refine zS ?_ | refine below_set ?_ GE216.out | exact HB.out⟩
            · rw [if_neg c27] at H
              have c27b0 : decide (1 ≤ a0_1) = false := decide_eq_false c27
              clear c27
              obtain rfl := Option.some.inj H
              go_enter Tryz.func66, Tryz.ntmps66
              go_wp2_with (first | ((with_reducible refine gate_dst (N := 1) rfl ?_); (try (refine gate_guard (by rfl) ?_; dsimp only)); refine box_event ?hg (N := 1) ?hd (cs := #[.int .i64 a0_0, .int .i64 a0_1, .string a0_2]) (t := 26) ?hr ?_; (case hd => rfl); (case hg => rfl); (case hr => first | (go_simp; done) | (go_simp; rfl)); intro gb216 hg w33 hbox hb; have n0_ := Aside0.mk (below_step (by repeat first | with_reducible exact HB.out | refine zS ?_ | exact HB.out) hb); have n1_ := Aside0.mk (hbox); have n2_ := Aside0.mk ((by rw [hg]; exact (below_size (by repeat first | with_reducible exact HB.out | refine zS ?_ | exact HB.out)) : w.heap.size ≤ gb216)); have n3_ := n2_; clear HB; have HB := n0_; have BK216 := n1_; have GW216 := n2_; have GE216 := n3_; clear n0_ n1_ n2_ n3_; clear hb hbox hg; obtain ⟨hcz34_0, hcz34_1, hcz34_2, hfz34_0, hfz34_1, hfz34_2⟩ := zC3 BK216.out))
              go_ret
              exact ⟨by first | rfl | (simp [errW_none, errW_some] <;> rfl) | (simp [*, errW_none, errW_some] <;> rfl), by repeat first | with_reducible exact HB.out | refine zS ?_ | refine below_set ?_ GE216.out | exact HB.out⟩
          · rw [if_neg c26] at H
            have c26b0 : (a0_0 == 4) = false := beq_eq_false_iff_ne.mpr c26
            have c26b1 : (a0_0 != 4) = true := bne_iff_ne.mpr c26
            obtain rfl := Option.some.inj H
            go_enter Tryz.func66, Tryz.ntmps66
            go_wp2_with (first | ((with_reducible refine gate_dst (N := 1) rfl ?_); (try (refine gate_guard (by rfl) ?_; dsimp only)); refine box_event ?hg (N := 1) ?hd (cs := #[.int .i64 a0_0, .int .i64 a0_1, .string a0_2]) (t := 26) ?hr ?_; (case hd => rfl); (case hg => rfl); (case hr => first | (go_simp; done) | (go_simp; rfl)); intro gb216 hg w35 hbox hb; have n0_ := Aside0.mk (below_step (by repeat first | with_reducible exact HB.out | refine zS ?_ | exact HB.out) hb); have n1_ := Aside0.mk (hbox); have n2_ := Aside0.mk ((by rw [hg]; exact (below_size (by repeat first | with_reducible exact HB.out | refine zS ?_ | exact HB.out)) : w.heap.size ≤ gb216)); have n3_ := n2_; clear HB; have HB := n0_; have BK216 := n1_; have GW216 := n2_; have GE216 := n3_; clear n0_ n1_ n2_ n3_; clear hb hbox hg; obtain ⟨hcz36_0, hcz36_1, hcz36_2, hfz36_0, hfz36_1, hfz36_2⟩ := zC3 BK216.out))
            go_ret
            exact ⟨by first | rfl | (simp [errW_none, errW_some] <;> rfl) | (simp [*, errW_none, errW_some] <;> rfl), by repeat first | with_reducible exact HB.out | refine zS ?_ | refine below_set ?_ GE216.out | exact HB.out⟩
end Go.Proofs.YtmdmpafdpgdpoaaGreatDoor.P

namespace Go.Proofs.YtmdmpafdpgdpoaaGreatDoor.P
open Go.RowKit Go.Proofs.YtmdmpafdpgdpoaaGreatDoorW.PrintWords Go.Proofs.YtmdmpafdpgdpoaaGreatDoorW.PrintLast Go.Proofs.YtmdmpafdpgdpoaaGreatDoorW.PrintMore
attribute [local go_sem] max2_int min2_int max_two min_two max_three min_three max_four min_four   -- for this text's walks alone
set_option linter.unusedVariables false
set_option linter.unusedSimpArgs false
def pannierref03_Fail.f (a0 : Int) : Option (Int × Int × ByteArray) := if a0 < 1 then (some (0, 0, (⟨#[]⟩ : ByteArray))) else (if a0 > 8 then (some (0, 0, (⟨#[]⟩ : ByteArray))) else (some (4, a0, (⟨#[]⟩ : ByteArray))))
set_option maxHeartbeats 8000000 in
set_option maxRecDepth 100000 in
theorem pannierref03_Fail.calls (a0 : Int) (r1 : Int) (r2 : Int) (r3 : ByteArray) (w : World) (h : pannierref03_Fail.f a0 = some (r1, r2, r3)) :
    Calls Tryz.prog 67 #[.int .i64 a0] w fun e w' => e = .returned (.agg #[.int .i64 r1, .int .i64 r2, .string r3]) ∧ Below w.heap.size w w' := by
  have hu26 := Tryz.underlying26
  have HB := Aside0.mk (Below.refl w.heap.size w)
  have H : (if a0 < 1 then (some (0, 0, (⟨#[]⟩ : ByteArray))) else (if a0 > 8 then (some (0, 0, (⟨#[]⟩ : ByteArray))) else (some (4, a0, (⟨#[]⟩ : ByteArray))))) = some (r1, r2, r3) := h
  clear h
  by_cases c2 : a0 < 1
  · rw [if_pos c2] at H
    have c2b0 : decide (a0 < 1) = true := decide_eq_true c2
    clear c2
    simp only [Option.some.injEq, Prod.mk.injEq] at H
    obtain ⟨rfl, rfl, rfl⟩ := H
    go_enter Tryz.func67, Tryz.ntmps67
    go_wp2_with (first | ((with_reducible refine gate_dst (N := 2) rfl ?_); refine box_event ?hg (N := 2) ?hd (cs := #[.int .i64 0, .int .i64 0, .string (⟨#[]⟩ : ByteArray)]) (t := 26) ?hr ?_; (case hd => rfl); (case hg => rfl); (case hr => first | (go_simp; done) | (go_simp; rfl)); intro gb217 hg w3 hbox hb; have n0_ := Aside0.mk (below_step (by repeat first | with_reducible exact HB.out | refine zS ?_ | exact HB.out) hb); have n1_ := Aside0.mk (hbox); have n2_ := Aside0.mk ((by rw [hg]; exact (below_size (by repeat first | with_reducible exact HB.out | refine zS ?_ | exact HB.out)) : w.heap.size ≤ gb217)); have n3_ := n2_; clear HB; have HB := n0_; have BK217 := n1_; have GW217 := n2_; have GE217 := n3_; clear n0_ n1_ n2_ n3_; clear hb hbox hg; obtain ⟨hcz4_0, hcz4_1, hcz4_2, hfz4_0, hfz4_1, hfz4_2⟩ := zC3 BK217.out))
    refine bodyPost_ret (results_cell_row rfl _ _ gb217 26 #[.int .i64 0, .int .i64 0, .string (⟨#[]⟩ : ByteArray)] (0, 0) _ rfl (by refine zB ?_; refine blk_put (cs := #[.int .i64 0, .int .i64 0, .string (⟨#[]⟩ : ByteArray)]) ?_ 2 _ rfl; refine zB ?_; refine blk_put (cs := #[.int .i64 0, .int .i64 0, .string (⟨#[]⟩ : ByteArray)]) ?_ 1 _ rfl; refine zB ?_; refine blk_put (cs := #[.int .i64 0, .int .i64 0, .string (⟨#[]⟩ : ByteArray)]) ?_ 0 _ rfl; refine zB ?_; exact BK217.out) Tryz.underlying26 rfl (by kernel_rfl)) rfl ?_
    exact ⟨by first | rfl | (simp [errW_none, errW_some] <;> rfl) | (simp [*, errW_none, errW_some] <;> rfl), by repeat first | with_reducible exact HB.out | refine zS ?_ | refine below_set ?_ GE217.out | exact HB.out⟩
  · rw [if_neg c2] at H
    have c2b0 : decide (a0 < 1) = false := decide_eq_false c2
    clear c2
    by_cases c5 : a0 > 8
    · rw [if_pos c5] at H
      have c5b0 : decide (8 < a0) = true := decide_eq_true c5
      clear c5
      simp only [Option.some.injEq, Prod.mk.injEq] at H
      obtain ⟨rfl, rfl, rfl⟩ := H
      go_enter Tryz.func67, Tryz.ntmps67
      go_wp2_with (first | ((with_reducible refine gate_dst (N := 2) rfl ?_); refine box_event ?hg (N := 2) ?hd (cs := #[.int .i64 0, .int .i64 0, .string (⟨#[]⟩ : ByteArray)]) (t := 26) ?hr ?_; (case hd => rfl); (case hg => rfl); (case hr => first | (go_simp; done) | (go_simp; rfl)); intro gb217 hg w6 hbox hb; have n0_ := Aside0.mk (below_step (by repeat first | with_reducible exact HB.out | refine zS ?_ | exact HB.out) hb); have n1_ := Aside0.mk (hbox); have n2_ := Aside0.mk ((by rw [hg]; exact (below_size (by repeat first | with_reducible exact HB.out | refine zS ?_ | exact HB.out)) : w.heap.size ≤ gb217)); have n3_ := n2_; clear HB; have HB := n0_; have BK217 := n1_; have GW217 := n2_; have GE217 := n3_; clear n0_ n1_ n2_ n3_; clear hb hbox hg; obtain ⟨hcz7_0, hcz7_1, hcz7_2, hfz7_0, hfz7_1, hfz7_2⟩ := zC3 BK217.out))
      refine bodyPost_ret (results_cell_row rfl _ _ gb217 26 #[.int .i64 0, .int .i64 0, .string (⟨#[]⟩ : ByteArray)] (0, 0) _ rfl (by refine zB ?_; refine blk_put (cs := #[.int .i64 0, .int .i64 0, .string (⟨#[]⟩ : ByteArray)]) ?_ 2 _ rfl; refine zB ?_; refine blk_put (cs := #[.int .i64 0, .int .i64 0, .string (⟨#[]⟩ : ByteArray)]) ?_ 1 _ rfl; refine zB ?_; refine blk_put (cs := #[.int .i64 0, .int .i64 0, .string (⟨#[]⟩ : ByteArray)]) ?_ 0 _ rfl; refine zB ?_; exact BK217.out) Tryz.underlying26 rfl (by kernel_rfl)) rfl ?_
      exact ⟨by first | rfl | (simp [errW_none, errW_some] <;> rfl) | (simp [*, errW_none, errW_some] <;> rfl), by repeat first | with_reducible exact HB.out | refine zS ?_ | refine below_set ?_ GE217.out | exact HB.out⟩
    · rw [if_neg c5] at H
      have c5b0 : decide (8 < a0) = false := decide_eq_false c5
      clear c5
      simp only [Option.some.injEq, Prod.mk.injEq] at H
      obtain ⟨rfl, rfl, rfl⟩ := H
      go_enter Tryz.func67, Tryz.ntmps67
      go_wp2_with (first | ((with_reducible refine gate_dst (N := 2) rfl ?_); refine box_event ?hg (N := 2) ?hd (cs := #[.int .i64 0, .int .i64 0, .string (⟨#[]⟩ : ByteArray)]) (t := 26) ?hr ?_; (case hd => rfl); (case hg => rfl); (case hr => first | (go_simp; done) | (go_simp; rfl)); intro gb217 hg w8 hbox hb; have n0_ := Aside0.mk (below_step (by repeat first | with_reducible exact HB.out | refine zS ?_ | exact HB.out) hb); have n1_ := Aside0.mk (hbox); have n2_ := Aside0.mk ((by rw [hg]; exact (below_size (by repeat first | with_reducible exact HB.out | refine zS ?_ | exact HB.out)) : w.heap.size ≤ gb217)); have n3_ := n2_; clear HB; have HB := n0_; have BK217 := n1_; have GW217 := n2_; have GE217 := n3_; clear n0_ n1_ n2_ n3_; clear hb hbox hg; obtain ⟨hcz9_0, hcz9_1, hcz9_2, hfz9_0, hfz9_1, hfz9_2⟩ := zC3 BK217.out))
      refine bodyPost_ret (results_cell_row rfl _ _ gb217 26 #[.int .i64 4, .int .i64 a0, .string (⟨#[]⟩ : ByteArray)] (0, 0) _ rfl (by refine zB ?_; refine blk_put (cs := #[.int .i64 4, .int .i64 a0, .string (⟨#[]⟩ : ByteArray)]) ?_ 2 _ rfl; refine zB ?_; refine blk_put (cs := #[.int .i64 4, .int .i64 0, .string (⟨#[]⟩ : ByteArray)]) ?_ 1 _ rfl; refine zB ?_; refine blk_put (cs := #[.int .i64 0, .int .i64 0, .string (⟨#[]⟩ : ByteArray)]) ?_ 0 _ rfl; refine zB ?_; exact BK217.out) Tryz.underlying26 rfl (by kernel_rfl)) rfl ?_
      exact ⟨by first | rfl | (simp [errW_none, errW_some] <;> rfl) | (simp [*, errW_none, errW_some] <;> rfl), by repeat first | with_reducible exact HB.out | refine zS ?_ | refine below_set ?_ GE217.out | exact HB.out⟩
end Go.Proofs.YtmdmpafdpgdpoaaGreatDoor.P

namespace Go.Proofs.YtmdmpafdpgdpoaaGreatDoor.P
open Go.RowKit Go.Proofs.YtmdmpafdpgdpoaaGreatDoorW.PrintWords Go.Proofs.YtmdmpafdpgdpoaaGreatDoorW.PrintLast Go.Proofs.YtmdmpafdpgdpoaaGreatDoorW.PrintMore
attribute [local go_sem] max2_int min2_int max_two min_two max_three min_three max_four min_four   -- for this text's walks alone
set_option linter.unusedVariables false
set_option linter.unusedSimpArgs false
def pannierref01_signed.j0 : Nat → Int → Bool → Bool → Option (Int × Bool)
  | 0, _, _, _ => none
  | k + 1, x0, x1, x5 => if x5 = true then (some ((-9223372036854775808), true)) else (if x0 ≥ 9223372036854775808 then (some (0, false)) else (if x1 = true then (some (wrap64 (-(wrap64 (x0))), true)) else (some (wrap64 (x0), true))))
def pannierref01_signed.f (k : Nat) (a0 : Int) (a1 : Bool) : Option (Int × Bool) := if a1 = true then (pannierref01_signed.j0 k a0 a1 (a0 == 9223372036854775808)) else (pannierref01_signed.j0 k a0 a1 false)
set_option maxHeartbeats 8000000 in
set_option maxRecDepth 100000 in
theorem pannierref01_signed.calls (k : Nat) (a0 : Int) (a1 : Bool) (r1 : Int) (r2 : Bool) (w : World) (h : pannierref01_signed.f k a0 a1 = some (r1, r2)) :
    Calls Tryz.prog 70 #[.int .u64 a0, .bool a1] w fun e w' => e = .returned (.agg #[.int .i64 r1, .bool r2]) ∧ Below w.heap.size w w' := by
  have hu72 := Tryz.underlying72
  have HB := Aside0.mk (Below.refl w.heap.size w)
  have H : (if a1 = true then (pannierref01_signed.j0 k a0 a1 (a0 == 9223372036854775808)) else (pannierref01_signed.j0 k a0 a1 false)) = some (r1, r2) := h
  clear h
  have HC3 := Aside0.mk H
  clear H
  go_enter Tryz.func70, Tryz.ntmps70
  go_upto_region 1 with (first | ((with_reducible refine gate_dst (N := 4) rfl ?_); refine box_event ?hg (N := 4) ?hd (cs := #[.int .i64 0, .bool false]) (t := 72) ?hr ?_; (case hd => rfl); (case hg => rfl); (case hr => first | (go_simp; done) | (go_simp; rfl)); intro gb218 hg w4 hbox hb; have n0_ := Aside0.mk (below_step (by repeat first | with_reducible exact HB.out | refine zS ?_ | exact HB.out) hb); have n1_ := Aside0.mk (hbox); have n2_ := Aside0.mk ((by rw [hg]; exact (below_size (by repeat first | with_reducible exact HB.out | refine zS ?_ | exact HB.out)) : w.heap.size ≤ gb218)); have n3_ := n2_; clear HB; have HB := n0_; have BK218 := n1_; have GW218 := n2_; have GE218 := n3_; clear n0_ n1_ n2_ n3_; clear hb hbox hg))
  (try simp only [Act.put, List.setIfInBounds_toArray, List.set_cons_zero, List.set_cons_succ])
  go_cut [5] (fun v5 wc => ∃ (kq : Nat) (x5_2 : Bool), v5 = .bool x5_2 ∧ Aside0 (pannierref01_signed.j0 kq a0 a1 x5_2 = some (r1, r2)) ∧ Aside0 (kq ≤ k) ∧ Aside0 (wc.heap[gb218]? = some (.cells #[.int .i64 0, .bool false] 72 (0, 0))) ∧ Aside0 (Below w.heap.size w wc))
  case first =>
    have H := HC3.out
    clear HC3
    by_cases c5 : a1 = true
    · subst c5
      have H1 : (pannierref01_signed.j0 k a0 true (a0 == 9223372036854775808)) = some (r1, r2) := by rw [if_pos rfl] at H; exact H
      clear H
      have H := H1
      clear H1
      have H' := Aside0.mk H
      clear H
      go_wp2
      go_meet
      case rel => exact ⟨_, ((a0 == 9223372036854775808)), (by first | rfl | (simp; done) | (simp [*]; done)), H', ⟨by first | omega | exact Nat.le_refl _⟩, ⟨by exact zB BK218.out⟩, ⟨by repeat first | with_reducible exact HB.out | refine zS ?_ | refine below_set ?_ GE218.out | exact HB.out⟩⟩
    · replace c5 := Bool.eq_false_iff.mpr c5
      subst c5
      have H1 : (pannierref01_signed.j0 k a0 false false) = some (r1, r2) := by rw [if_neg (show ¬ (false = true) by decide)] at H; exact H
      clear H
      have H := H1
      clear H1
      have H' := Aside0.mk H
      clear H
      go_wp2
      go_meet
      case rel => exact ⟨_, (false), (by first | rfl | (simp; done) | (simp [*]; done)), H', ⟨by first | omega | exact Nat.le_refl _⟩, ⟨by exact zB BK218.out⟩, ⟨by repeat first | with_reducible exact HB.out | refine zS ?_ | refine below_set ?_ GE218.out | exact HB.out⟩⟩
  case rest =>
    clear HC3
    try clear p2
    try clear c5
    obtain ⟨kq, x5_2, rfl, HA, HJ2, BK218, HB⟩ := hcut
    cases kq with
    | zero => exact absurd HA.out (by simp [pannierref01_signed.j0])
    | succ kj2 =>
      have H := HA.out
      clear HA
      simp only [pannierref01_signed.j0] at H
      by_cases c6 : x5_2 = true
      · subst c6
        have H1 : (some ((-9223372036854775808), true)) = some (r1, r2) := by rw [if_pos rfl] at H; exact H
        clear H
        have H := H1
        clear H1
        simp only [Option.some.injEq, Prod.mk.injEq] at H
        obtain ⟨rfl, rfl⟩ := H
        have hcz7_0 : wc.cell? ⟨gb218, 0, none⟩ = some (.int .i64 0) := (blk_cell BK218.out 0).trans rfl
        have hcz7_1 : wc.cell? ⟨gb218, 1, none⟩ = some (.bool false) := (blk_cell BK218.out 1).trans rfl
        have hfz7_0 := blk_frozen BK218.out 0
        have hfz7_1 := blk_frozen BK218.out 1
        go_wp2
        refine bodyPost_ret (results_cell_row rfl _ _ gb218 72 #[.int .i64 (-9223372036854775808), .bool true] (0, 0) _ rfl (by refine zB ?_; refine blk_put (cs := #[.int .i64 (-9223372036854775808), .bool false]) ?_ 1 _ rfl; refine zB ?_; refine blk_put (cs := #[.int .i64 0, .bool false]) ?_ 0 _ rfl; refine zB ?_; exact BK218.out) Tryz.underlying72 rfl (by kernel_rfl)) rfl ?_
        exact ⟨by first | rfl | (simp [errW_none, errW_some] <;> rfl) | (simp [*, errW_none, errW_some] <;> rfl), by repeat first | with_reducible exact HB.out | refine zS ?_ | refine below_set ?_ GE218.out | exact HB.out⟩
      · replace c6 := Bool.eq_false_iff.mpr c6
        subst c6
        have H1 : (if a0 ≥ 9223372036854775808 then (some (0, false)) else (if a1 = true then (some (wrap64 (-(wrap64 (a0))), true)) else (some (wrap64 (a0), true)))) = some (r1, r2) := by rw [if_neg (show ¬ (false = true) by decide)] at H; exact H
        clear H
        have H := H1
        clear H1
        by_cases c8 : a0 ≥ 9223372036854775808
        · rw [if_pos c8] at H
          have c8b0 : decide (9223372036854775808 ≤ a0) = true := decide_eq_true c8
          clear c8
          simp only [Option.some.injEq, Prod.mk.injEq] at H
          obtain ⟨rfl, rfl⟩ := H
          have hcz9_0 : wc.cell? ⟨gb218, 0, none⟩ = some (.int .i64 0) := (blk_cell BK218.out 0).trans rfl
          have hcz9_1 : wc.cell? ⟨gb218, 1, none⟩ = some (.bool false) := (blk_cell BK218.out 1).trans rfl
          have hfz9_0 := blk_frozen BK218.out 0
          have hfz9_1 := blk_frozen BK218.out 1
          go_wp2
          refine bodyPost_ret (results_cell_row rfl _ _ gb218 72 #[.int .i64 0, .bool false] (0, 0) _ rfl (by refine zB ?_; refine blk_put (cs := #[.int .i64 0, .bool false]) ?_ 1 _ rfl; refine zB ?_; refine blk_put (cs := #[.int .i64 0, .bool false]) ?_ 0 _ rfl; refine zB ?_; exact BK218.out) Tryz.underlying72 rfl (by kernel_rfl)) rfl ?_
          exact ⟨by first | rfl | (simp [errW_none, errW_some] <;> rfl) | (simp [*, errW_none, errW_some] <;> rfl), by repeat first | with_reducible exact HB.out | refine zS ?_ | refine below_set ?_ GE218.out | exact HB.out⟩
        · rw [if_neg c8] at H
          have c8b0 : decide (9223372036854775808 ≤ a0) = false := decide_eq_false c8
          clear c8
          by_cases c10 : a1 = true
          · subst c10
            have H1 : (some (wrap64 (-(wrap64 (a0))), true)) = some (r1, r2) := by rw [if_pos rfl] at H; exact H
            clear H
            have H := H1
            clear H1
            simp only [Option.some.injEq, Prod.mk.injEq] at H
            obtain ⟨rfl, rfl⟩ := H
            have hcz11_0 : wc.cell? ⟨gb218, 0, none⟩ = some (.int .i64 0) := (blk_cell BK218.out 0).trans rfl
            have hcz11_1 : wc.cell? ⟨gb218, 1, none⟩ = some (.bool false) := (blk_cell BK218.out 1).trans rfl
            have hfz11_0 := blk_frozen BK218.out 0
            have hfz11_1 := blk_frozen BK218.out 1
            go_wp2
            refine bodyPost_ret (results_cell_row rfl _ _ gb218 72 #[.int .i64 (wrap64 (-(wrap64 (a0)))), .bool true] (0, 0) _ rfl (by refine zB ?_; refine blk_put (cs := #[.int .i64 (wrap64 (-(wrap64 (a0)))), .bool false]) ?_ 1 _ rfl; refine zB ?_; refine blk_put (cs := #[.int .i64 0, .bool false]) ?_ 0 _ rfl; refine zB ?_; exact BK218.out) Tryz.underlying72 rfl (by kernel_rfl)) rfl ?_
            exact ⟨by first | rfl | (simp [errW_none, errW_some] <;> rfl) | (simp [*, errW_none, errW_some] <;> rfl), by repeat first | with_reducible exact HB.out | refine zS ?_ | refine below_set ?_ GE218.out | exact HB.out⟩
          · replace c10 := Bool.eq_false_iff.mpr c10
            subst c10
            have H1 : (some (wrap64 (a0), true)) = some (r1, r2) := by rw [if_neg (show ¬ (false = true) by decide)] at H; exact H
            clear H
            have H := H1
            clear H1
            simp only [Option.some.injEq, Prod.mk.injEq] at H
            obtain ⟨rfl, rfl⟩ := H
            have hcz12_0 : wc.cell? ⟨gb218, 0, none⟩ = some (.int .i64 0) := (blk_cell BK218.out 0).trans rfl
            have hcz12_1 : wc.cell? ⟨gb218, 1, none⟩ = some (.bool false) := (blk_cell BK218.out 1).trans rfl
            have hfz12_0 := blk_frozen BK218.out 0
            have hfz12_1 := blk_frozen BK218.out 1
            go_wp2
            refine bodyPost_ret (results_cell_row rfl _ _ gb218 72 #[.int .i64 (wrap64 (a0)), .bool true] (0, 0) _ rfl (by refine zB ?_; refine blk_put (cs := #[.int .i64 (wrap64 (a0)), .bool false]) ?_ 1 _ rfl; refine zB ?_; refine blk_put (cs := #[.int .i64 0, .bool false]) ?_ 0 _ rfl; refine zB ?_; exact BK218.out) Tryz.underlying72 rfl (by kernel_rfl)) rfl ?_
            exact ⟨by first | rfl | (simp [errW_none, errW_some] <;> rfl) | (simp [*, errW_none, errW_some] <;> rfl), by repeat first | with_reducible exact HB.out | refine zS ?_ | refine below_set ?_ GE218.out | exact HB.out⟩
end Go.Proofs.YtmdmpafdpgdpoaaGreatDoor.P

namespace Go.Proofs.YtmdmpafdpgdpoaaGreatDoor.P
open Go.RowKit Go.Proofs.YtmdmpafdpgdpoaaGreatDoorW.PrintWords Go.Proofs.YtmdmpafdpgdpoaaGreatDoorW.PrintLast Go.Proofs.YtmdmpafdpgdpoaaGreatDoorW.PrintMore
attribute [local go_sem] max2_int min2_int max_two min_two max_three min_three max_four min_four   -- for this text's walks alone
set_option linter.unusedVariables false
set_option linter.unusedSimpArgs false
def pannierref01_whole.f (a0 : Int) : Option (Int) := if a0 < 0 then (some (IntKind.u64.wrap ((IntKind.u64.wrap (wrap64 (-(wrap64 (a0 + 1))))) + 1))) else (some (IntKind.u64.wrap (a0)))
set_option maxHeartbeats 8000000 in
set_option maxRecDepth 100000 in
theorem pannierref01_whole.calls (a0 : Int) (r : Int) (w : World) (h : pannierref01_whole.f a0 = some r) :
    Calls Tryz.prog 69 #[.int .i64 a0] w fun e w' => e = .returned (.int .u64 r) ∧ Drawn0 w w' := by
  have H : (if a0 < 0 then (some (IntKind.u64.wrap ((IntKind.u64.wrap (wrap64 (-(wrap64 (a0 + 1))))) + 1))) else (some (IntKind.u64.wrap (a0)))) = some r := h
  clear h
  by_cases c2 : a0 < 0
  · rw [if_pos c2] at H
    have c2b0 : decide (a0 < 0) = true := decide_eq_true c2
    clear c2
    obtain rfl := Option.some.inj H
    go_enter Tryz.func69, Tryz.ntmps69
    go_wp2
    go_ret
    exact ⟨by first | rfl | (simp; done) | (simp [*]; done), by repeat (first | exact Drawn0.refl _ | apply Drawn0.step)⟩
  · rw [if_neg c2] at H
    have c2b0 : decide (a0 < 0) = false := decide_eq_false c2
    clear c2
    obtain rfl := Option.some.inj H
    go_enter Tryz.func69, Tryz.ntmps69
    go_wp2
    go_ret
    exact ⟨by first | rfl | (simp; done) | (simp [*]; done), by repeat (first | exact Drawn0.refl _ | apply Drawn0.step)⟩
end Go.Proofs.YtmdmpafdpgdpoaaGreatDoor.P

namespace Go.Proofs.YtmdmpafdpgdpoaaGreatDoor.P
open Go.RowKit Go.Proofs.YtmdmpafdpgdpoaaGreatDoorW.PrintWords Go.Proofs.YtmdmpafdpgdpoaaGreatDoorW.PrintLast Go.Proofs.YtmdmpafdpgdpoaaGreatDoorW.PrintMore
attribute [local go_sem] max2_int min2_int max_two min_two max_three min_three max_four min_four   -- for this text's walks alone
set_option linter.unusedVariables false
set_option linter.unusedSimpArgs false
def pannierref01_digits.l0 : Nat → Int → ByteArray → Int → Option (ByteArray)
  | 0, _, _, _ => none
  | k + 1, x0, x3, x4 => if x4 < 20 then (if 0 ≤ (Int.tmod x0 10) then (if (Int.tmod x0 10) ≤ (IntKind.u64.wrap ((Int.tmod x0 10) + 1)) then (if (IntKind.u64.wrap ((Int.tmod x0 10) + 1)) ≤ 10 then (if ((⟨#[48, 49, 50, 51, 52, 53, 54, 55, 56, 57]⟩ : ByteArray).extract ((Int.tmod x0 10) : Int).toNat ((IntKind.u64.wrap ((Int.tmod x0 10) + 1)) : Int).toNat).size + x3.size ≤ 9223372036854775807 then (if (IntKind.u64.wrap (Int.tdiv x0 10)) = 0 then (some (((⟨#[48, 49, 50, 51, 52, 53, 54, 55, 56, 57]⟩ : ByteArray).extract ((Int.tmod x0 10) : Int).toNat ((IntKind.u64.wrap ((Int.tmod x0 10) + 1)) : Int).toNat) ++ x3)) else (pannierref01_digits.l0 k (IntKind.u64.wrap (Int.tdiv x0 10)) (((⟨#[48, 49, 50, 51, 52, 53, 54, 55, 56, 57]⟩ : ByteArray).extract ((Int.tmod x0 10) : Int).toNat ((IntKind.u64.wrap ((Int.tmod x0 10) + 1)) : Int).toNat) ++ x3) (wrap64 (x4 + 1)))) else (none)) else (none)) else (none)) else (none)) else (some x3)
def pannierref01_digits.f (k : Nat) (a0 : Int) : Option (ByteArray) := pannierref01_digits.l0 k a0 (⟨#[]⟩ : ByteArray) 0
set_option maxHeartbeats 8000000 in
set_option maxRecDepth 100000 in
theorem pannierref01_digits.calls (k : Nat) (a0 : Int) (r : ByteArray) (w : World) (h : pannierref01_digits.f k a0 = some r) :
    Calls Tryz.prog 82 #[.int .u64 a0] w fun e w' => e = .returned (.string r) ∧ Drawn0 w w' := by
  have H : (pannierref01_digits.l0 k a0 (⟨#[]⟩ : ByteArray) 0) = some r := h
  clear h
  have H' := Aside0.mk H
  clear H
  go_enter Tryz.func82, Tryz.ntmps82
  go_wp2
  go_loopg [0, 3, 4] k (fun kq v0 v3 v4 w' => ∃ (x0_1 : Int) (x3_1 : ByteArray) (x4_1 : Int), v0 = .int .u64 x0_1 ∧ v3 = .string x3_1 ∧ v4 = .int .i64 x4_1 ∧ Aside0 (pannierref01_digits.l0 kq x0_1 x3_1 x4_1 = some r) ∧ Aside0 (kq ≤ k) ∧ Drawn0 w w')
  case atStart => exact ⟨(a0), ((⟨#[]⟩ : ByteArray)), (0), (by first | rfl | (simp; done) | (simp [*]; done)), (by first | rfl | (simp; done) | (simp [*]; done)), (by first | rfl | (simp; done) | (simp [*]; done)), H', ⟨Nat.le_refl _⟩, by repeat (first | exact Drawn0.refl _ | apply Drawn0.step)⟩
  case round =>
    clear H'
    obtain ⟨x0_1, x3_1, x4_1, rfl, rfl, rfl, HA, HK1, ⟨m1, rfl⟩⟩ := hrel
    cases gk with
    | zero => exact absurd HA.out (by simp [pannierref01_digits.l0])
    | succ k1 =>
      have H := HA.out
      clear HA
      simp only [pannierref01_digits.l0] at H
      by_cases c2 : x4_1 < 20
      · rw [if_pos c2] at H
        have c2b0 : decide (x4_1 < 20) = true := decide_eq_true c2
        clear c2
        obtain ⟨ji3, hji3⟩ : ∃ j_ : Int, (Int.tmod x0_1 10) = j_ := ⟨_, rfl⟩
        replace H : (if 0 ≤ (ji3) then (if (ji3) ≤ (IntKind.u64.wrap ((ji3) + 1)) then (if (IntKind.u64.wrap ((ji3) + 1)) ≤ 10 then (if ((⟨#[48, 49, 50, 51, 52, 53, 54, 55, 56, 57]⟩ : ByteArray).extract ((ji3) : Int).toNat ((IntKind.u64.wrap ((ji3) + 1)) : Int).toNat).size + x3_1.size ≤ 9223372036854775807 then (if (IntKind.u64.wrap (Int.tdiv x0_1 10)) = 0 then (some (((⟨#[48, 49, 50, 51, 52, 53, 54, 55, 56, 57]⟩ : ByteArray).extract ((ji3) : Int).toNat ((IntKind.u64.wrap ((ji3) + 1)) : Int).toNat) ++ x3_1)) else (pannierref01_digits.l0 k1 (IntKind.u64.wrap (Int.tdiv x0_1 10)) (((⟨#[48, 49, 50, 51, 52, 53, 54, 55, 56, 57]⟩ : ByteArray).extract ((ji3) : Int).toNat ((IntKind.u64.wrap ((ji3) + 1)) : Int).toNat) ++ x3_1) (wrap64 (x4_1 + 1)))) else (none)) else (none)) else (none)) else (none)) = some r := by first | (rw [hji3] at H; exact H) | (simp only [hji3] at H ⊢; exact H)
        by_cases c4 : 0 ≤ (ji3)
        · rw [if_pos c4] at H
          have c4b0 := eq_true c4
          have c4b1 : decide (0 ≤ (ji3)) = true := decide_eq_true c4
          clear c4
          by_cases c5 : (ji3) ≤ (IntKind.u64.wrap ((ji3) + 1))
          · rw [if_pos c5] at H
            have c5b0 := eq_true c5
            have c5b1 : decide ((ji3) ≤ (IntKind.u64.wrap ((ji3) + 1))) = true := decide_eq_true c5
            by_cases c6 : (IntKind.u64.wrap ((ji3) + 1)) ≤ 10
            · rw [if_pos c6] at H
              have c6b0 := eq_true c6
              have c6b1 : decide ((IntKind.u64.wrap ((ji3) + 1)) ≤ 10) = true := decide_eq_true c6
              by_cases c7 : ((⟨#[48, 49, 50, 51, 52, 53, 54, 55, 56, 57]⟩ : ByteArray).extract ((ji3) : Int).toNat ((IntKind.u64.wrap ((ji3) + 1)) : Int).toNat).size + x3_1.size ≤ 9223372036854775807
              · rw [if_pos c7] at H
                have c7b0 := eq_true c7
                have c7b1 : decide (((⟨#[48, 49, 50, 51, 52, 53, 54, 55, 56, 57]⟩ : ByteArray).extract ((ji3) : Int).toNat ((IntKind.u64.wrap ((ji3) + 1)) : Int).toNat).size + x3_1.size ≤ 9223372036854775807) = true := decide_eq_true c7
                try have c7b2 : (9223372036854775807 < ((⟨#[48, 49, 50, 51, 52, 53, 54, 55, 56, 57]⟩ : ByteArray).extract ((ji3) : Int).toNat ((IntKind.u64.wrap ((ji3) + 1)) : Int).toNat).size + x3_1.size) = False := eq_false (Nat.not_lt.2 c7)
                by_cases c8 : (IntKind.u64.wrap (Int.tdiv x0_1 10)) = 0
                · rw [if_pos c8] at H
                  have c8b0 : ((IntKind.u64.wrap (Int.tdiv x0_1 10)) == 0) = true := beq_iff_eq.mpr c8
                  have c8b1 : ((IntKind.u64.wrap (Int.tdiv x0_1 10)) != 0) = false := bne_eq_false_iff_eq.mpr c8
                  clear c8
                  obtain rfl := Option.some.inj H
                  go_wp2
                  go_ret
                  exact ⟨by first | rfl | (simp; done) | (simp only [← hji3] <;> (first | rfl | simp)) | (simp [*]; done), by repeat (first | exact Drawn0.refl _ | apply Drawn0.step)⟩
                · rw [if_neg c8] at H
                  have c8b0 : ((IntKind.u64.wrap (Int.tdiv x0_1 10)) == 0) = false := beq_eq_false_iff_ne.mpr c8
                  have c8b1 : ((IntKind.u64.wrap (Int.tdiv x0_1 10)) != 0) = true := bne_iff_ne.mpr c8
                  have H' := Aside0.mk H
                  clear H
                  go_wp2
                  go_roundg k1
                  case measure => have := HK1.out; omega
                  case rel => exact ⟨(IntKind.u64.wrap (Int.tdiv x0_1 10)), (((⟨#[48, 49, 50, 51, 52, 53, 54, 55, 56, 57]⟩ : ByteArray).extract ((ji3) : Int).toNat ((IntKind.u64.wrap ((ji3) + 1)) : Int).toNat) ++ x3_1), (wrap64 (x4_1 + 1)), (by first | rfl | (simp; done) | (simp [*]; done)), (by first | rfl | (simp; done) | (simp only [← hji3] <;> (first | rfl | simp)) | (simp [*]; done)), (by first | rfl | (simp; done) | (simp [*]; done)), H', ⟨by have := HK1.out; omega⟩, by repeat (first | exact Drawn0.refl _ | apply Drawn0.step)⟩
              · rw [if_neg c7] at H
                exact absurd H (by simp)
            · rw [if_neg c6] at H
              exact absurd H (by simp)
          · rw [if_neg c5] at H
            exact absurd H (by simp)
        · rw [if_neg c4] at H
          exact absurd H (by simp)
      · rw [if_neg c2] at H
        have c2b0 : decide (x4_1 < 20) = false := decide_eq_false c2
        clear c2
        obtain rfl := Option.some.inj H
        go_wp2
        go_ret
        exact ⟨by first | rfl | (simp; done) | (simp [*]; done), by repeat (first | exact Drawn0.refl _ | apply Drawn0.step)⟩
end Go.Proofs.YtmdmpafdpgdpoaaGreatDoor.P

namespace Go.Proofs.YtmdmpafdpgdpoaaGreatDoor.P
open Go.RowKit Go.Proofs.YtmdmpafdpgdpoaaGreatDoorW.PrintWords Go.Proofs.YtmdmpafdpgdpoaaGreatDoorW.PrintLast Go.Proofs.YtmdmpafdpgdpoaaGreatDoorW.PrintMore
attribute [local go_sem] max2_int min2_int max_two min_two max_three min_three max_four min_four   -- for this text's walks alone
set_option linter.unusedVariables false
set_option linter.unusedSimpArgs false
def pannierref01_Dec.f (k : Nat) (a0 : Int) : Option (ByteArray) := if a0 < 0 then ((pannierref01_whole.f a0).bind fun t219 => ((pannierref01_digits.f k t219).bind fun t220 => (if 1 + t220.size ≤ 9223372036854775807 then (some ((⟨#[45]⟩ : ByteArray) ++ t220)) else (none)))) else ((pannierref01_whole.f a0).bind fun t221 => ((pannierref01_digits.f k t221).bind fun t222 => (some t222)))
set_option maxHeartbeats 8000000 in
set_option maxRecDepth 100000 in
theorem pannierref01_Dec.calls (k : Nat) (a0 : Int) (r : ByteArray) (w : World) (h : pannierref01_Dec.f k a0 = some r) :
    Calls Tryz.prog 78 #[.int .i64 a0] w fun e w' => e = .returned (.string r) ∧ Drawn0 w w' := by
  have H : (if a0 < 0 then ((pannierref01_whole.f a0).bind fun t219 => ((pannierref01_digits.f k t219).bind fun t220 => (if 1 + t220.size ≤ 9223372036854775807 then (some ((⟨#[45]⟩ : ByteArray) ++ t220)) else (none)))) else ((pannierref01_whole.f a0).bind fun t221 => ((pannierref01_digits.f k t221).bind fun t222 => (some t222)))) = some r := h
  clear h
  by_cases c2 : a0 < 0
  · rw [if_pos c2] at H
    have c2b0 : decide (a0 < 0) = true := decide_eq_true c2
    clear c2
    replace H := Option.bind_eq_some_iff.mp H
    obtain ⟨t219, A30, H⟩ := H
    replace H : ((pannierref01_digits.f k t219).bind fun t220 => (if 1 + t220.size ≤ 9223372036854775807 then (some ((⟨#[45]⟩ : ByteArray) ++ t220)) else (none))) = some r := H
    have A3 := Aside0.mk A30
    clear A30
    replace H := Option.bind_eq_some_iff.mp H
    obtain ⟨t220, A40, H⟩ := H
    replace H : (if 1 + t220.size ≤ 9223372036854775807 then (some ((⟨#[45]⟩ : ByteArray) ++ t220)) else (none)) = some r := H
    have A4 := Aside0.mk A40
    clear A40
    by_cases c5 : 1 + t220.size ≤ 9223372036854775807
    · rw [if_pos c5] at H
      have c5b0 := eq_true c5
      have c5b1 : decide (1 + t220.size ≤ 9223372036854775807) = true := decide_eq_true c5
      try have c5b2 : (9223372036854775807 < 1 + t220.size) = False := eq_false (Nat.not_lt.2 c5)
      obtain rfl := Option.some.inj H
      go_enter Tryz.func78, Tryz.ntmps78
      go_wp2_with (first | ((with_reducible refine gate_callee (f := 69) rfl ?_); refine goesL_ (some 6) rfl rfl Tryz.func69 (by kernel_rfl) rfl #[.int .i64 a0] rfl (by (try simp only [List.map_toArray, List.map_cons, List.map_nil]); first | done | rfl | (simp only [List.length_drop, List.length_take]; rfl)) ?_; (with_reducible refine (pannierref01_whole.calls a0 t219 _ A3.out).mono ?_); rintro e w' ⟨rfl, ⟨nd, rfl⟩⟩; refine ⟨_, rfl, ?_⟩) | ((with_reducible refine gate_callee (f := 82) rfl ?_); refine goesL_ (some 7) rfl rfl Tryz.func82 (by kernel_rfl) rfl #[.int .u64 t219] rfl (by (try simp only [List.map_toArray, List.map_cons, List.map_nil]); first | done | rfl | (simp only [List.length_drop, List.length_take]; rfl)) ?_; (with_reducible refine (pannierref01_digits.calls k t219 t220 _ A4.out).mono ?_); rintro e w' ⟨rfl, ⟨nd, rfl⟩⟩; refine ⟨_, rfl, ?_⟩))
      go_ret
      exact ⟨by first | rfl | (simp; done) | (simp [*]; done), by repeat (first | exact Drawn0.refl _ | apply Drawn0.step)⟩
    · rw [if_neg c5] at H
      exact absurd H (by simp)
  · rw [if_neg c2] at H
    have c2b0 : decide (a0 < 0) = false := decide_eq_false c2
    clear c2
    replace H := Option.bind_eq_some_iff.mp H
    obtain ⟨t221, A60, H⟩ := H
    replace H : ((pannierref01_digits.f k t221).bind fun t222 => (some t222)) = some r := H
    have A6 := Aside0.mk A60
    clear A60
    replace H := Option.bind_eq_some_iff.mp H
    obtain ⟨t222, A70, H⟩ := H
    replace H : (some t222) = some r := H
    have A7 := Aside0.mk A70
    clear A70
    obtain rfl := Option.some.inj H
    go_enter Tryz.func78, Tryz.ntmps78
    go_wp2_with (first | ((with_reducible refine gate_callee (f := 69) rfl ?_); refine goesL_ (some 10) rfl rfl Tryz.func69 (by kernel_rfl) rfl #[.int .i64 a0] rfl (by (try simp only [List.map_toArray, List.map_cons, List.map_nil]); first | done | rfl | (simp only [List.length_drop, List.length_take]; rfl)) ?_; (with_reducible refine (pannierref01_whole.calls a0 t221 _ A6.out).mono ?_); rintro e w' ⟨rfl, ⟨nd, rfl⟩⟩; refine ⟨_, rfl, ?_⟩) | ((with_reducible refine gate_callee (f := 82) rfl ?_); refine goesL_ (some 11) rfl rfl Tryz.func82 (by kernel_rfl) rfl #[.int .u64 t221] rfl (by (try simp only [List.map_toArray, List.map_cons, List.map_nil]); first | done | rfl | (simp only [List.length_drop, List.length_take]; rfl)) ?_; (with_reducible refine (pannierref01_digits.calls k t221 t222 _ A7.out).mono ?_); rintro e w' ⟨rfl, ⟨nd, rfl⟩⟩; refine ⟨_, rfl, ?_⟩))
    go_ret
    exact ⟨by first | rfl | (simp; done) | (simp [*]; done), by repeat (first | exact Drawn0.refl _ | apply Drawn0.step)⟩
end Go.Proofs.YtmdmpafdpgdpoaaGreatDoor.P

namespace Go.Proofs.YtmdmpafdpgdpoaaGreatDoor.P
open Go.RowKit Go.Proofs.YtmdmpafdpgdpoaaGreatDoorW.PrintWords Go.Proofs.YtmdmpafdpgdpoaaGreatDoorW.PrintLast Go.Proofs.YtmdmpafdpgdpoaaGreatDoorW.PrintMore
attribute [local go_sem] max2_int min2_int max_two min_two max_three min_three max_four min_four   -- for this text's walks alone
set_option linter.unusedVariables false
set_option linter.unusedSimpArgs false
mutual
def pannierref01_Parse.j0 : Nat → ByteArray → Int → Bool → Option (Int × Bool)
  | 0, _, _, _ => none
  | k + 1, x0, x3, x14 => if x14 = true then (pannierref01_Parse.j1 k x0 1) else (pannierref01_Parse.j1 k x0 x3)
def pannierref01_Parse.j1 : Nat → ByteArray → Int → Option (Int × Bool)
  | 0, _, _ => none
  | k + 1, x0, x3 => if (x0.size : Int) = x3 then (pannierref01_Parse.j2 k x0 x3 true) else (pannierref01_Parse.j2 k x0 x3 (decide ((x0.size : Int) > 20)))
def pannierref01_Parse.j2 : Nat → ByteArray → Int → Bool → Option (Int × Bool)
  | 0, _, _, _ => none
  | k + 1, x0, x3, x23 => if x23 = true then (some (0, false)) else (pannierref01_Parse.l0 k x0 x3 0 x3)
def pannierref01_Parse.l0 : Nat → ByteArray → Int → Int → Int → Option (Int × Bool)
  | 0, _, _, _, _ => none
  | k + 1, x0, x3, x4, x5 => if x5 < (x0.size : Int) then (if 0 ≤ x5 then (if (bt x0 x5) < 48 then (some (0, false)) else (if (bt x0 x5) > 57 then (some (0, false)) else (if x4 > 922337203685477580 then (some (0, false)) else (pannierref01_Parse.l0 k x0 x3 (IntKind.u64.wrap ((IntKind.u64.wrap (x4 * 10)) + (((bt x0 x5) - 48) % 256))) (wrap64 (x5 + 1)))))) else (none)) else ((pannierref01_signed.f k x4 (x3 == 1)).bind fun bt224 => (if bt224.2 = true then ((pannierref01_Dec.f k bt224.1).bind fun t227 => (if t227.toList = x0.toList then (some (bt224.1, bt224.2)) else (some (0, false)))) else (some (0, false))))
end
def pannierref01_Parse.f (k : Nat) (a0 : ByteArray) : Option (Int × Bool) := if (a0.size : Int) > 0 then (if 0 < (a0.size : Int) then (pannierref01_Parse.j0 k a0 0 ((bt a0 0) == 45)) else (none)) else (pannierref01_Parse.j0 k a0 0 false)
set_option maxHeartbeats 8000000 in
set_option maxRecDepth 100000 in
theorem pannierref01_Parse.calls (k : Nat) (a0 : ByteArray) (r1 : Int) (r2 : Bool) (w : World) (h : pannierref01_Parse.f k a0 = some (r1, r2)) :
    Calls Tryz.prog 68 #[.string a0] w fun e w' => e = .returned (.agg #[.int .i64 r1, .bool r2]) ∧ Below w.heap.size w w' := by
  have hu72 := Tryz.underlying72
  have HB := Aside0.mk (Below.refl w.heap.size w)
  have H : (if (a0.size : Int) > 0 then (if 0 < (a0.size : Int) then (pannierref01_Parse.j0 k a0 0 ((bt a0 0) == 45)) else (none)) else (pannierref01_Parse.j0 k a0 0 false)) = some (r1, r2) := h
  clear h
  have HC2 := Aside0.mk H
  clear H
  go_enter Tryz.func68, Tryz.ntmps68
  go_upto_region 2 with (first | ((with_reducible refine gate_dst (N := 2) rfl ?_); (try (refine gate_guard (by rfl) ?_; dsimp only)); refine box_event ?hg (N := 2) ?hd (cs := #[.int .i64 0, .bool false]) (t := 72) ?hr ?_; (case hd => rfl); (case hg => rfl); (case hr => first | (go_simp; done) | (go_simp; rfl)); intro gb223 hg w3 hbox hb; have n0_ := Aside0.mk (below_step (by repeat first | with_reducible exact HB.out | refine zS ?_ | exact HB.out) hb); have n1_ := Aside0.mk (hbox); have n2_ := Aside0.mk ((by rw [hg]; exact (below_size (by repeat first | with_reducible exact HB.out | refine zS ?_ | exact HB.out)) : w.heap.size ≤ gb223)); have n3_ := n2_; clear HB; have HB := n0_; have BK223 := n1_; have GW223 := n2_; have GE223 := n3_; clear n0_ n1_ n2_ n3_; clear hb hbox hg))
  (try simp only [Act.put, List.setIfInBounds_toArray, List.set_cons_zero, List.set_cons_succ])
  go_cut [14] (fun v14 wc => ∃ (kq : Nat) (x14_1 : Bool), v14 = .bool x14_1 ∧ Aside0 (pannierref01_Parse.j0 kq a0 0 x14_1 = some (r1, r2)) ∧ Aside0 (kq ≤ k) ∧ Aside0 (wc.heap[gb223]? = some (.cells #[.int .i64 0, .bool false] 72 (0, 0))) ∧ Aside0 (Below w.heap.size w wc))
  case first =>
    have H := HC2.out
    clear HC2
    by_cases c4 : (a0.size : Int) > 0
    · rw [if_pos c4] at H
      have c4b0 : decide (0 < (a0.size : Int)) = true := decide_eq_true c4
      have c4b1 : decide (0 < a0.size) = true := decide_eq_true (by omega)
      clear c4
      (first | rw [c4b0] | (simp only [i64_w, i32_w]; rw [c4b0]) | skip)
      by_cases c5 : 0 < (a0.size : Int)
      · rw [if_pos c5] at H
        have c5b0 : decide (0 < (a0.size : Int)) = true := decide_eq_true c5
        have c5b1 : decide (0 < a0.size) = true := decide_eq_true (by omega)
        clear c5
        have H' := Aside0.mk H
        clear H
        have p6 : 0 ≤ (0 : Int) := (by omega)
        have q6 : 0 < a0.size := (by have : (0 : Int) < (a0.size : Int) := of_decide_eq_true (by first | (with_reducible assumption) | assumption); omega)
        have hx6 : ∀ h : 0 < a0.size, ((a0[0]'h).toNat : Int) = bt a0 0 := bt_at a0 0
        clear p6
        have qi6 : (0 < (a0.size : Int)) = True := eq_true (of_decide_eq_true (by first | (with_reducible assumption) | assumption))
        replace q6 := eq_true q6
        go_wp2
        go_meet
        case rel => exact ⟨_, (((bt a0 0) == 45)), (by first | rfl | (simp; done) | (simp [*]; done)), H', ⟨by first | omega | exact Nat.le_refl _⟩, ⟨by exact zB BK223.out⟩, ⟨by repeat first | with_reducible exact HB.out | refine zS ?_ | refine below_set ?_ GE223.out | exact HB.out⟩⟩
      · rw [if_neg c5] at H
        exact absurd H (by simp)
    · rw [if_neg c4] at H
      have c4b0 : decide (0 < (a0.size : Int)) = false := decide_eq_false c4
      have c4b1 : decide (0 < a0.size) = false := decide_eq_false (by omega)
      clear c4
      (first | rw [c4b0] | (simp only [i64_w, i32_w]; rw [c4b0]) | skip)
      have H' := Aside0.mk H
      clear H
      go_wp2
      go_meet
      case rel => exact ⟨_, (false), (by first | rfl | (simp; done) | (simp [*]; done)), H', ⟨by first | omega | exact Nat.le_refl _⟩, ⟨by exact zB BK223.out⟩, ⟨by repeat first | with_reducible exact HB.out | refine zS ?_ | refine below_set ?_ GE223.out | exact HB.out⟩⟩
  case rest =>
    clear HC2
    try clear p2
    try clear c4
    try clear c4b0
    try clear c4b1
    try clear c5
    try clear c5b0
    try clear c5b1
    try clear c6
    try clear p6
    try clear q6
    try clear hx6
    try clear qi6
    try clear p6
    try clear q6
    obtain ⟨kq, x14_1, rfl, HA, HJ1, BK223, HB⟩ := hcut
    cases kq with
    | zero => exact absurd HA.out (by simp [pannierref01_Parse.j0])
    | succ kj1 =>
      have H := HA.out
      clear HA
      simp only [pannierref01_Parse.j0] at H
      have HC7 := Aside0.mk H
      clear H
      go_upto_if 14 with (fail)
      go_cut [3] (fun v3 wc => ∃ (kq : Nat) (x3_6 : Int), v3 = .int .i64 x3_6 ∧ Aside0 (pannierref01_Parse.j1 kq a0 x3_6 = some (r1, r2)) ∧ Aside0 (kq ≤ kj1) ∧ Aside0 (wc.heap[gb223]? = some (.cells #[.int .i64 0, .bool false] 72 (0, 0))) ∧ Aside0 (Below w.heap.size w wc))
      case first =>
        have H := HC7.out
        clear HC7
        by_cases c8 : x14_1 = true
        · subst c8
          have H1 : (pannierref01_Parse.j1 kj1 a0 1) = some (r1, r2) := by rw [if_pos rfl] at H; exact H
          clear H
          have H := H1
          clear H1
          have H' := Aside0.mk H
          clear H
          go_wp2
          go_meet
          case rel => exact ⟨_, (1), (by first | rfl | (simp; done) | (simp [*]; done)), H', ⟨by have := HJ1.out; first | omega | exact Nat.le_refl _⟩, ⟨by exact zB BK223.out⟩, ⟨by repeat first | with_reducible exact HB.out | refine zS ?_ | refine below_set ?_ GE223.out | exact HB.out⟩⟩
        · replace c8 := Bool.eq_false_iff.mpr c8
          subst c8
          have H1 : (pannierref01_Parse.j1 kj1 a0 0) = some (r1, r2) := by rw [if_neg (show ¬ (false = true) by decide)] at H; exact H
          clear H
          have H := H1
          clear H1
          have H' := Aside0.mk H
          clear H
          go_wp2
          go_meet
          case rel => exact ⟨_, (0), (by first | rfl | (simp; done) | (simp [*]; done)), H', ⟨by have := HJ1.out; first | omega | exact Nat.le_refl _⟩, ⟨by exact zB BK223.out⟩, ⟨by repeat first | with_reducible exact HB.out | refine zS ?_ | refine below_set ?_ GE223.out | exact HB.out⟩⟩
      case rest =>
        clear HC7
        try clear p2
        try clear c4
        try clear c4b0
        try clear c4b1
        try clear c5
        try clear c5b0
        try clear c5b1
        try clear c6
        try clear p6
        try clear q6
        try clear hx6
        try clear qi6
        try clear c8
        try clear p2
        try clear p6
        try clear q6
        obtain ⟨kq, x3_6, rfl, HA, HJ6, BK223, HB⟩ := hcut
        cases kq with
        | zero => exact absurd HA.out (by simp [pannierref01_Parse.j1])
        | succ kj6 =>
          have H := HA.out
          clear HA
          simp only [pannierref01_Parse.j1] at H
          have HC9 := Aside0.mk H
          clear H
          go_upto_region 4 with (fail)
          go_cut [23] (fun v23 wc => ∃ (kq : Nat) (x23_8 : Bool), v23 = .bool x23_8 ∧ Aside0 (pannierref01_Parse.j2 kq a0 x3_6 x23_8 = some (r1, r2)) ∧ Aside0 (kq ≤ kj6) ∧ Aside0 (wc.heap[gb223]? = some (.cells #[.int .i64 0, .bool false] 72 (0, 0))) ∧ Aside0 (Below w.heap.size w wc))
          case first =>
            have H := HC9.out
            clear HC9
            by_cases c10 : (a0.size : Int) = x3_6
            · rw [if_pos c10] at H
              have c10b0 : ((a0.size : Int) == x3_6) = true := beq_iff_eq.mpr c10
              have c10b1 : ((a0.size : Int) != x3_6) = false := bne_eq_false_iff_eq.mpr c10
              clear c10
              (first | rw [c10b0] | (simp only [i64_w, i32_w]; rw [c10b0]) | skip)
              have H' := Aside0.mk H
              clear H
              go_wp2
              go_meet
              case rel => exact ⟨_, (true), (by first | rfl | (simp; done) | (simp [*]; done)), H', ⟨by have := HJ1.out; have := HJ6.out; first | omega | exact Nat.le_refl _⟩, ⟨by exact zB BK223.out⟩, ⟨by repeat first | with_reducible exact HB.out | refine zS ?_ | refine below_set ?_ GE223.out | exact HB.out⟩⟩
            · rw [if_neg c10] at H
              have c10b0 : ((a0.size : Int) == x3_6) = false := beq_eq_false_iff_ne.mpr c10
              have c10b1 : ((a0.size : Int) != x3_6) = true := bne_iff_ne.mpr c10
              (first | rw [c10b0] | (simp only [i64_w, i32_w]; rw [c10b0]) | skip)
              have H' := Aside0.mk H
              clear H
              go_wp2
              go_meet
              case rel => exact ⟨_, (decide ((a0.size : Int) > 20)), (by first | rfl | (simp; done) | (simp [*]; done)), H', ⟨by have := HJ1.out; have := HJ6.out; first | omega | exact Nat.le_refl _⟩, ⟨by exact zB BK223.out⟩, ⟨by repeat first | with_reducible exact HB.out | refine zS ?_ | refine below_set ?_ GE223.out | exact HB.out⟩⟩
          case rest =>
            clear HC9
            try clear c1
            try clear p2
            try clear c4
            try clear c4b0
            try clear c4b1
            try clear c5
            try clear c5b0
            try clear c5b1
            try clear c6
            try clear p6
            try clear q6
            try clear hx6
            try clear qi6
            try clear c8
            try clear c10
            try clear c10b0
            try clear c10b1
            try clear p2
            try clear p6
            try clear q6
            obtain ⟨kq, x23_8, rfl, HA, HJ8, BK223, HB⟩ := hcut
            cases kq with
            | zero => exact absurd HA.out (by simp [pannierref01_Parse.j2])
            | succ kj8 =>
              have H := HA.out
              clear HA
              simp only [pannierref01_Parse.j2] at H
              by_cases c11 : x23_8 = true
              · subst c11
                have H1 : (some (0, false)) = some (r1, r2) := by rw [if_pos rfl] at H; exact H
                clear H
                have H := H1
                clear H1
                simp only [Option.some.injEq, Prod.mk.injEq] at H
                obtain ⟨rfl, rfl⟩ := H
                have hcz12_0 : wc.cell? ⟨gb223, 0, none⟩ = some (.int .i64 0) := (blk_cell BK223.out 0).trans rfl
                have hcz12_1 : wc.cell? ⟨gb223, 1, none⟩ = some (.bool false) := (blk_cell BK223.out 1).trans rfl
                have hfz12_0 := blk_frozen BK223.out 0
                have hfz12_1 := blk_frozen BK223.out 1
                go_wp2
                refine bodyPost_ret (results_cell_row rfl _ _ gb223 72 #[.int .i64 0, .bool false] (0, 0) _ rfl (by refine zB ?_; refine blk_put (cs := #[.int .i64 0, .bool false]) ?_ 1 _ rfl; refine zB ?_; refine blk_put (cs := #[.int .i64 0, .bool false]) ?_ 0 _ rfl; refine zB ?_; exact BK223.out) Tryz.underlying72 rfl (by kernel_rfl)) rfl ?_
                exact ⟨by first | rfl | (simp [errW_none, errW_some] <;> rfl) | (simp [*, errW_none, errW_some] <;> rfl), by repeat first | with_reducible exact HB.out | refine zS ?_ | refine below_set ?_ GE223.out | exact HB.out⟩
              · replace c11 := Bool.eq_false_iff.mpr c11
                subst c11
                have H1 : (pannierref01_Parse.l0 kj8 a0 x3_6 0 x3_6) = some (r1, r2) := by rw [if_neg (show ¬ (false = true) by decide)] at H; exact H
                clear H
                have H := H1
                clear H1
                have H' := Aside0.mk H
                clear H
                go_wp2
                go_loopg [4, 5] kj8 (fun kq v4 v5 w' => ∃ (x4_4 : Int) (x5_4 : Int) (x224000_4 : Int) (x224001_4 : Bool), v4 = .int .u64 x4_4 ∧ v5 = .int .i64 x5_4 ∧ Aside0 (pannierref01_Parse.l0 kq a0 x3_6 x4_4 x5_4 = some (r1, r2)) ∧ Aside0 (kq ≤ kj8) ∧ Aside0 (w'.heap[gb223]? = some (.cells #[.int .i64 x224000_4, .bool x224001_4] 72 (0, 0))) ∧ Aside0 (Below w.heap.size w w'))
                case atStart => exact ⟨(0), (x3_6), (0), (false), (by first | rfl | (simp; done) | (simp [*]; done)), (by first | rfl | (simp; done) | (simp [*]; done)), H', ⟨Nat.le_refl _⟩, ⟨by exact zB BK223.out⟩, ⟨by repeat first | with_reducible exact HB.out | refine zS ?_ | refine below_set ?_ GE223.out | exact HB.out⟩⟩
                case round =>
                  clear H'
                  try clear c1
                  try clear p2
                  try clear c4
                  try clear c4b0
                  try clear c4b1
                  try clear c5
                  try clear c5b0
                  try clear c5b1
                  try clear c6
                  try clear p6
                  try clear q6
                  try clear hx6
                  try clear qi6
                  try clear c8
                  try clear c10
                  try clear c10b0
                  try clear c10b1
                  try clear c11
                  try clear hcz12_0
                  try clear hcz12_1
                  try clear hfz12_0
                  try clear hfz12_1
                  try clear p2
                  try clear p6
                  try clear q6
                  obtain ⟨x4_4, x5_4, x224000_4, x224001_4, rfl, rfl, HA, HK4, BK223, HB⟩ := hrel
                  cases gk with
                  | zero => exact absurd HA.out (by simp [pannierref01_Parse.l0])
                  | succ k4 =>
                    have H := HA.out
                    clear HA
                    simp only [pannierref01_Parse.l0] at H
                    by_cases c13 : x5_4 < (a0.size : Int)
                    · rw [if_pos c13] at H
                      have c13b0 : decide (x5_4 < (a0.size : Int)) = true := decide_eq_true c13
                      clear c13
                      by_cases c14 : 0 ≤ x5_4
                      · rw [if_pos c14] at H
                        have c14b0 : decide (0 ≤ x5_4) = true := decide_eq_true c14
                        clear c14
                        by_cases c16 : (bt a0 x5_4) < 48
                        · rw [if_pos c16] at H
                          have c16b0 : decide ((bt a0 x5_4) < 48) = true := decide_eq_true c16
                          clear c16
                          simp only [Option.some.injEq, Prod.mk.injEq] at H
                          obtain ⟨rfl, rfl⟩ := H
                          have p15 : 0 ≤ (x5_4 : Int) := of_decide_eq_true (by first | (with_reducible assumption) | assumption)
                          have q15 : x5_4 < (a0.size : Int) := of_decide_eq_true (by first | (with_reducible assumption) | assumption)
                          have hx15 := bt_at a0 x5_4
                          replace p15 := eq_true p15
                          replace q15 := eq_true q15
                          have hcz17_0 : wr.cell? ⟨gb223, 0, none⟩ = some (.int .i64 x224000_4) := (blk_cell BK223.out 0).trans rfl
                          have hcz17_1 : wr.cell? ⟨gb223, 1, none⟩ = some (.bool x224001_4) := (blk_cell BK223.out 1).trans rfl
                          have hfz17_0 := blk_frozen BK223.out 0
                          have hfz17_1 := blk_frozen BK223.out 1
                          go_wp2
                          refine bodyPost_ret (results_cell_row rfl _ _ gb223 72 #[.int .i64 0, .bool false] (0, 0) _ rfl (by refine zB ?_; refine blk_put (cs := #[.int .i64 0, .bool x224001_4]) ?_ 1 _ rfl; refine zB ?_; refine blk_put (cs := #[.int .i64 x224000_4, .bool x224001_4]) ?_ 0 _ rfl; refine zB ?_; exact BK223.out) Tryz.underlying72 rfl (by kernel_rfl)) rfl ?_
                          exact ⟨by first | rfl | (simp [errW_none, errW_some] <;> rfl) | (simp [*, errW_none, errW_some] <;> rfl), by repeat first | with_reducible exact HB.out | refine zS ?_ | refine below_set ?_ GE223.out | exact HB.out⟩
                        · rw [if_neg c16] at H
                          have c16b0 : decide ((bt a0 x5_4) < 48) = false := decide_eq_false c16
                          clear c16
                          by_cases c19 : (bt a0 x5_4) > 57
                          · rw [if_pos c19] at H
                            have c19b0 : decide (57 < (bt a0 x5_4)) = true := decide_eq_true c19
                            clear c19
                            simp only [Option.some.injEq, Prod.mk.injEq] at H
                            obtain ⟨rfl, rfl⟩ := H
                            have p15 : 0 ≤ (x5_4 : Int) := of_decide_eq_true (by first | (with_reducible assumption) | assumption)
                            have q15 : x5_4 < (a0.size : Int) := of_decide_eq_true (by first | (with_reducible assumption) | assumption)
                            have hx15 := bt_at a0 x5_4
                            replace p15 := eq_true p15
                            replace q15 := eq_true q15
                            have p18 : 0 ≤ (x5_4 : Int) := of_decide_eq_true (by first | (with_reducible assumption) | assumption)
                            have q18 : x5_4 < (a0.size : Int) := of_decide_eq_true (by first | (with_reducible assumption) | assumption)
                            have hx18 := bt_at a0 x5_4
                            replace p18 := eq_true p18
                            replace q18 := eq_true q18
                            have hcz20_0 : wr.cell? ⟨gb223, 0, none⟩ = some (.int .i64 x224000_4) := (blk_cell BK223.out 0).trans rfl
                            have hcz20_1 : wr.cell? ⟨gb223, 1, none⟩ = some (.bool x224001_4) := (blk_cell BK223.out 1).trans rfl
                            have hfz20_0 := blk_frozen BK223.out 0
                            have hfz20_1 := blk_frozen BK223.out 1
                            go_wp2
                            refine bodyPost_ret (results_cell_row rfl _ _ gb223 72 #[.int .i64 0, .bool false] (0, 0) _ rfl (by refine zB ?_; refine blk_put (cs := #[.int .i64 0, .bool x224001_4]) ?_ 1 _ rfl; refine zB ?_; refine blk_put (cs := #[.int .i64 x224000_4, .bool x224001_4]) ?_ 0 _ rfl; refine zB ?_; exact BK223.out) Tryz.underlying72 rfl (by kernel_rfl)) rfl ?_
                            exact ⟨by first | rfl | (simp [errW_none, errW_some] <;> rfl) | (simp [*, errW_none, errW_some] <;> rfl), by repeat first | with_reducible exact HB.out | refine zS ?_ | refine below_set ?_ GE223.out | exact HB.out⟩
                          · rw [if_neg c19] at H
                            have c19b0 : decide (57 < (bt a0 x5_4)) = false := decide_eq_false c19
                            clear c19
                            by_cases c21 : x4_4 > 922337203685477580
                            · rw [if_pos c21] at H
                              have c21b0 : decide (922337203685477580 < x4_4) = true := decide_eq_true c21
                              clear c21
                              simp only [Option.some.injEq, Prod.mk.injEq] at H
                              obtain ⟨rfl, rfl⟩ := H
                              have p15 : 0 ≤ (x5_4 : Int) := of_decide_eq_true (by first | (with_reducible assumption) | assumption)
                              have q15 : x5_4 < (a0.size : Int) := of_decide_eq_true (by first | (with_reducible assumption) | assumption)
                              have hx15 := bt_at a0 x5_4
                              replace p15 := eq_true p15
                              replace q15 := eq_true q15
                              have p18 : 0 ≤ (x5_4 : Int) := of_decide_eq_true (by first | (with_reducible assumption) | assumption)
                              have q18 : x5_4 < (a0.size : Int) := of_decide_eq_true (by first | (with_reducible assumption) | assumption)
                              have hx18 := bt_at a0 x5_4
                              replace p18 := eq_true p18
                              replace q18 := eq_true q18
                              have hcz22_0 : wr.cell? ⟨gb223, 0, none⟩ = some (.int .i64 x224000_4) := (blk_cell BK223.out 0).trans rfl
                              have hcz22_1 : wr.cell? ⟨gb223, 1, none⟩ = some (.bool x224001_4) := (blk_cell BK223.out 1).trans rfl
                              have hfz22_0 := blk_frozen BK223.out 0
                              have hfz22_1 := blk_frozen BK223.out 1
                              go_wp2
                              refine bodyPost_ret (results_cell_row rfl _ _ gb223 72 #[.int .i64 0, .bool false] (0, 0) _ rfl (by refine zB ?_; refine blk_put (cs := #[.int .i64 0, .bool x224001_4]) ?_ 1 _ rfl; refine zB ?_; refine blk_put (cs := #[.int .i64 x224000_4, .bool x224001_4]) ?_ 0 _ rfl; refine zB ?_; exact BK223.out) Tryz.underlying72 rfl (by kernel_rfl)) rfl ?_
                              exact ⟨by first | rfl | (simp [errW_none, errW_some] <;> rfl) | (simp [*, errW_none, errW_some] <;> rfl), by repeat first | with_reducible exact HB.out | refine zS ?_ | refine below_set ?_ GE223.out | exact HB.out⟩
                            · rw [if_neg c21] at H
                              have c21b0 : decide (922337203685477580 < x4_4) = false := decide_eq_false c21
                              clear c21
                              have H' := Aside0.mk H
                              clear H
                              have p15 : 0 ≤ (x5_4 : Int) := of_decide_eq_true (by first | (with_reducible assumption) | assumption)
                              have q15 : x5_4 < (a0.size : Int) := of_decide_eq_true (by first | (with_reducible assumption) | assumption)
                              have hx15 := bt_at a0 x5_4
                              replace p15 := eq_true p15
                              replace q15 := eq_true q15
                              have p18 : 0 ≤ (x5_4 : Int) := of_decide_eq_true (by first | (with_reducible assumption) | assumption)
                              have q18 : x5_4 < (a0.size : Int) := of_decide_eq_true (by first | (with_reducible assumption) | assumption)
                              have hx18 := bt_at a0 x5_4
                              replace p18 := eq_true p18
                              replace q18 := eq_true q18
                              have p23 : 0 ≤ (x5_4 : Int) := of_decide_eq_true (by first | (with_reducible assumption) | assumption)
                              have q23 : x5_4 < (a0.size : Int) := of_decide_eq_true (by first | (with_reducible assumption) | assumption)
                              have hx23 := bt_at a0 x5_4
                              replace p23 := eq_true p23
                              replace q23 := eq_true q23
                              go_wp2
                              go_roundg k4
                              case measure => have := HJ1.out; have := HJ6.out; have := HJ8.out; have := HK4.out; omega
                              case rel => exact ⟨(IntKind.u64.wrap ((IntKind.u64.wrap (x4_4 * 10)) + (((bt a0 x5_4) - 48) % 256))), (wrap64 (x5_4 + 1)), (x224000_4), (x224001_4), (by first | rfl | (simp; done) | (simp [*]; done)), (by first | rfl | (simp; done) | (simp [*]; done)), H', ⟨by have := HJ1.out; have := HJ6.out; have := HJ8.out; have := HK4.out; omega⟩, ⟨by exact zB BK223.out⟩, ⟨by repeat first | with_reducible exact HB.out | refine zS ?_ | refine below_set ?_ GE223.out | exact HB.out⟩⟩
                      · rw [if_neg c14] at H
                        exact absurd H (by simp)
                    · rw [if_neg c13] at H
                      have c13b0 : decide (x5_4 < (a0.size : Int)) = false := decide_eq_false c13
                      clear c13
                      replace H := Option.bind_eq_some_iff.mp H
                      obtain ⟨⟨t224, t225⟩, A240, H⟩ := H
                      replace H : (if t225 = true then ((pannierref01_Dec.f k4 t224).bind fun t227 => (if t227.toList = a0.toList then (some (t224, t225)) else (some (0, false)))) else (some (0, false))) = some (r1, r2) := H
                      have A24 := Aside0.mk A240
                      clear A240
                      by_cases c25 : t225 = true
                      · subst c25
                        have H1 : ((pannierref01_Dec.f k4 t224).bind fun t227 => (if t227.toList = a0.toList then (some (t224, true)) else (some (0, false)))) = some (r1, r2) := by rw [if_pos rfl] at H; exact H
                        clear H
                        have H := H1
                        clear H1
                        replace H := Option.bind_eq_some_iff.mp H
                        obtain ⟨t227, A260, H⟩ := H
                        replace H : (if t227.toList = a0.toList then (some (t224, true)) else (some (0, false))) = some (r1, r2) := H
                        have A26 := Aside0.mk A260
                        clear A260
                        by_cases c27 : t227.toList = a0.toList
                        · rw [if_pos c27] at H
                          have c27b0 : (t227.toList == a0.toList) = true := beq_iff_eq.mpr c27
                          have c27b1 : (t227.toList != a0.toList) = false := bne_eq_false_iff_eq.mpr c27
                          clear c27
                          simp only [Option.some.injEq, Prod.mk.injEq] at H
                          obtain ⟨rfl, rfl⟩ := H
                          go_wp2_with (first | ((with_reducible refine gate_callee (f := 70) rfl ?_); refine goesL_ (some 58) rfl rfl Tryz.func70 (by kernel_rfl) rfl #[.int .u64 x4_4, .bool (x3_6 == 1)] rfl (by (try simp only [List.map_toArray, List.map_cons, List.map_nil]); first | done | rfl | (simp only [List.length_drop, List.length_take]; rfl)) ?_; (with_reducible refine (pannierref01_signed.calls k4 x4_4 (x3_6 == 1) t224 true _ A24.out).mono ?_); rintro e w28 ⟨rfl, hb⟩; refine ⟨_, rfl, ?_⟩; have n0_ := Aside0.mk (blk_below (g := gb223) (o := .cells #[.int .i64 x224000_4, .bool x224001_4] 72 (0, 0)) (zB BK223.out) hb); have n1_ := Aside0.mk (below_step (by repeat first | with_reducible exact HB.out | refine zS ?_ | refine below_set ?_ GE223.out | exact HB.out) hb); clear BK223; clear HB; have BK223 := n0_; have HB := n1_; clear n0_ n1_; (try clear hb); (try clear hb2); (try clear hk); (try clear hi)) | ((with_reducible refine gate_dst (N := 6) rfl ?_); (try (refine gate_guard (by rfl) ?_; dsimp only)); refine box_event ?hg (N := 6) ?hd (cs := #[.int .i64 0, .bool false]) (t := 72) ?hr ?_; (case hd => rfl); (case hg => rfl); (case hr => first | (go_simp; done) | (go_simp; rfl)); intro gb226 hg w29 hbox hb; have n0_ := Aside0.mk (blk_below (g := gb223) (o := .cells #[.int .i64 x224000_4, .bool x224001_4] 72 (0, 0)) (zB BK223.out) hb); have n1_ := Aside0.mk (below_step (by repeat first | with_reducible exact HB.out | refine zS ?_ | refine below_set ?_ GE223.out | exact HB.out) hb); have n2_ := Aside0.mk (hbox); have n3_ := Aside0.mk ((by rw [hg]; exact (below_size (by repeat first | with_reducible exact HB.out | refine zS ?_ | refine below_set ?_ GE223.out | exact HB.out)) : w.heap.size ≤ gb226)); have n4_ := n3_; have n5_ := Aside0.mk ((by rw [hg]; exact Nat.ne_of_lt (blk_lt (g := gb223) (o := .cells #[.int .i64 x224000_4, .bool x224001_4] 72 (0, 0)) (zB BK223.out)) : gb223 ≠ gb226)); have n6_ := Aside0.mk ((by rw [hg]; exact Nat.ne_of_gt (blk_lt (g := gb223) (o := .cells #[.int .i64 x224000_4, .bool x224001_4] 72 (0, 0)) (zB BK223.out)) : gb226 ≠ gb223)); clear BK223; clear HB; have BK223 := n0_; have HB := n1_; have BK226 := n2_; have GW226 := n3_; have GE226 := n4_; have NB223_226 := n5_; have NB226_223 := n6_; clear n0_ n1_ n2_ n3_ n4_ n5_ n6_; clear hb hbox hg; have hnb30 := NB226_223.out; have hnc30 := NB223_226.out; obtain ⟨hcz31_0, hcz31_1, hfz31_0, hfz31_1⟩ := zC2 BK226.out) | (go_at_call 78; (with_reducible refine (pannierref01_Dec.calls k4 t224 t227 _ A26.out).mono ?_); rintro e w' ⟨rfl, ⟨nd, rfl⟩⟩; obtain ⟨hcz32_0, hcz32_1, hfz32_0, hfz32_1⟩ := zC2 BK223.out))
                          refine bodyPost_ret (results_cell_row rfl _ _ gb223 72 #[.int .i64 t224, .bool true] (0, 0) _ rfl (by refine zB ?_; refine blk_put (cs := #[.int .i64 t224, .bool x224001_4]) ?_ 1 _ rfl; refine zB ?_; refine blk_put (cs := #[.int .i64 x224000_4, .bool x224001_4]) ?_ 0 _ rfl; refine zB (blk_far ?_ NB223_226.out _); refine zB (blk_far ?_ NB223_226.out _); refine zB ?_; exact BK223.out) Tryz.underlying72 rfl (by kernel_rfl)) rfl ?_
                          exact ⟨by first | rfl | (simp [errW_none, errW_some] <;> rfl) | (simp [*, errW_none, errW_some] <;> rfl), by repeat first | with_reducible exact HB.out | refine zS ?_ | refine below_set ?_ GE223.out | refine below_set ?_ GE226.out | exact HB.out⟩
                        · rw [if_neg c27] at H
                          have c27b0 : (t227.toList == a0.toList) = false := beq_eq_false_iff_ne.mpr c27
                          have c27b1 : (t227.toList != a0.toList) = true := bne_iff_ne.mpr c27
                          simp only [Option.some.injEq, Prod.mk.injEq] at H
                          obtain ⟨rfl, rfl⟩ := H
                          go_wp2_with (first | ((with_reducible refine gate_callee (f := 70) rfl ?_); refine goesL_ (some 58) rfl rfl Tryz.func70 (by kernel_rfl) rfl #[.int .u64 x4_4, .bool (x3_6 == 1)] rfl (by (try simp only [List.map_toArray, List.map_cons, List.map_nil]); first | done | rfl | (simp only [List.length_drop, List.length_take]; rfl)) ?_; (with_reducible refine (pannierref01_signed.calls k4 x4_4 (x3_6 == 1) t224 true _ A24.out).mono ?_); rintro e w33 ⟨rfl, hb⟩; refine ⟨_, rfl, ?_⟩; have n0_ := Aside0.mk (blk_below (g := gb223) (o := .cells #[.int .i64 x224000_4, .bool x224001_4] 72 (0, 0)) (zB BK223.out) hb); have n1_ := Aside0.mk (below_step (by repeat first | with_reducible exact HB.out | refine zS ?_ | refine below_set ?_ GE223.out | exact HB.out) hb); clear BK223; clear HB; have BK223 := n0_; have HB := n1_; clear n0_ n1_; (try clear hb); (try clear hb2); (try clear hk); (try clear hi)) | ((with_reducible refine gate_dst (N := 6) rfl ?_); (try (refine gate_guard (by rfl) ?_; dsimp only)); refine box_event ?hg (N := 6) ?hd (cs := #[.int .i64 0, .bool false]) (t := 72) ?hr ?_; (case hd => rfl); (case hg => rfl); (case hr => first | (go_simp; done) | (go_simp; rfl)); intro gb226 hg w34 hbox hb; have n0_ := Aside0.mk (blk_below (g := gb223) (o := .cells #[.int .i64 x224000_4, .bool x224001_4] 72 (0, 0)) (zB BK223.out) hb); have n1_ := Aside0.mk (below_step (by repeat first | with_reducible exact HB.out | refine zS ?_ | refine below_set ?_ GE223.out | exact HB.out) hb); have n2_ := Aside0.mk (hbox); have n3_ := Aside0.mk ((by rw [hg]; exact (below_size (by repeat first | with_reducible exact HB.out | refine zS ?_ | refine below_set ?_ GE223.out | exact HB.out)) : w.heap.size ≤ gb226)); have n4_ := n3_; have n5_ := Aside0.mk ((by rw [hg]; exact Nat.ne_of_lt (blk_lt (g := gb223) (o := .cells #[.int .i64 x224000_4, .bool x224001_4] 72 (0, 0)) (zB BK223.out)) : gb223 ≠ gb226)); have n6_ := Aside0.mk ((by rw [hg]; exact Nat.ne_of_gt (blk_lt (g := gb223) (o := .cells #[.int .i64 x224000_4, .bool x224001_4] 72 (0, 0)) (zB BK223.out)) : gb226 ≠ gb223)); clear BK223; clear HB; have BK223 := n0_; have HB := n1_; have BK226 := n2_; have GW226 := n3_; have GE226 := n4_; have NB223_226 := n5_; have NB226_223 := n6_; clear n0_ n1_ n2_ n3_ n4_ n5_ n6_; clear hb hbox hg; have hnb35 := NB226_223.out; have hnc35 := NB223_226.out; obtain ⟨hcz36_0, hcz36_1, hfz36_0, hfz36_1⟩ := zC2 BK226.out) | (go_at_call 78; (with_reducible refine (pannierref01_Dec.calls k4 t224 t227 _ A26.out).mono ?_); rintro e w' ⟨rfl, ⟨nd, rfl⟩⟩; obtain ⟨hcz37_0, hcz37_1, hfz37_0, hfz37_1⟩ := zC2 BK223.out))
                          refine bodyPost_ret (results_cell_row rfl _ _ gb223 72 #[.int .i64 0, .bool false] (0, 0) _ rfl (by refine zB ?_; refine blk_put (cs := #[.int .i64 0, .bool x224001_4]) ?_ 1 _ rfl; refine zB ?_; refine blk_put (cs := #[.int .i64 x224000_4, .bool x224001_4]) ?_ 0 _ rfl; refine zB (blk_far ?_ NB223_226.out _); refine zB (blk_far ?_ NB223_226.out _); refine zB ?_; exact BK223.out) Tryz.underlying72 rfl (by kernel_rfl)) rfl ?_
                          exact ⟨by first | rfl | (simp [errW_none, errW_some] <;> rfl) | (simp [*, errW_none, errW_some] <;> rfl), by repeat first | with_reducible exact HB.out | refine zS ?_ | refine below_set ?_ GE223.out | refine below_set ?_ GE226.out | exact HB.out⟩
                      · replace c25 := Bool.eq_false_iff.mpr c25
                        subst c25
                        have H1 : (some (0, false)) = some (r1, r2) := by rw [if_neg (show ¬ (false = true) by decide)] at H; exact H
                        clear H
                        have H := H1
                        clear H1
                        simp only [Option.some.injEq, Prod.mk.injEq] at H
                        obtain ⟨rfl, rfl⟩ := H
                        go_wp2_with (first | ((with_reducible refine gate_callee (f := 70) rfl ?_); refine goesL_ (some 58) rfl rfl Tryz.func70 (by kernel_rfl) rfl #[.int .u64 x4_4, .bool (x3_6 == 1)] rfl (by (try simp only [List.map_toArray, List.map_cons, List.map_nil]); first | done | rfl | (simp only [List.length_drop, List.length_take]; rfl)) ?_; (with_reducible refine (pannierref01_signed.calls k4 x4_4 (x3_6 == 1) t224 false _ A24.out).mono ?_); rintro e w38 ⟨rfl, hb⟩; refine ⟨_, rfl, ?_⟩; have n0_ := Aside0.mk (blk_below (g := gb223) (o := .cells #[.int .i64 x224000_4, .bool x224001_4] 72 (0, 0)) (zB BK223.out) hb); have n1_ := Aside0.mk (below_step (by repeat first | with_reducible exact HB.out | refine zS ?_ | refine below_set ?_ GE223.out | exact HB.out) hb); clear BK223; clear HB; have BK223 := n0_; have HB := n1_; clear n0_ n1_; (try clear hb); (try clear hb2); (try clear hk); (try clear hi)) | ((with_reducible refine gate_dst (N := 6) rfl ?_); (try (refine gate_guard (by rfl) ?_; dsimp only)); refine box_event ?hg (N := 6) ?hd (cs := #[.int .i64 0, .bool false]) (t := 72) ?hr ?_; (case hd => rfl); (case hg => rfl); (case hr => first | (go_simp; done) | (go_simp; rfl)); intro gb226 hg w39 hbox hb; have n0_ := Aside0.mk (blk_below (g := gb223) (o := .cells #[.int .i64 x224000_4, .bool x224001_4] 72 (0, 0)) (zB BK223.out) hb); have n1_ := Aside0.mk (below_step (by repeat first | with_reducible exact HB.out | refine zS ?_ | refine below_set ?_ GE223.out | exact HB.out) hb); have n2_ := Aside0.mk (hbox); have n3_ := Aside0.mk ((by rw [hg]; exact (below_size (by repeat first | with_reducible exact HB.out | refine zS ?_ | refine below_set ?_ GE223.out | exact HB.out)) : w.heap.size ≤ gb226)); have n4_ := n3_; have n5_ := Aside0.mk ((by rw [hg]; exact Nat.ne_of_lt (blk_lt (g := gb223) (o := .cells #[.int .i64 x224000_4, .bool x224001_4] 72 (0, 0)) (zB BK223.out)) : gb223 ≠ gb226)); have n6_ := Aside0.mk ((by rw [hg]; exact Nat.ne_of_gt (blk_lt (g := gb223) (o := .cells #[.int .i64 x224000_4, .bool x224001_4] 72 (0, 0)) (zB BK223.out)) : gb226 ≠ gb223)); clear BK223; clear HB; have BK223 := n0_; have HB := n1_; have BK226 := n2_; have GW226 := n3_; have GE226 := n4_; have NB223_226 := n5_; have NB226_223 := n6_; clear n0_ n1_ n2_ n3_ n4_ n5_ n6_; clear hb hbox hg; have hnb40 := NB226_223.out; have hnc40 := NB223_226.out; obtain ⟨hcz41_0, hcz41_1, hfz41_0, hfz41_1⟩ := zC2 BK226.out; obtain ⟨hcz42_0, hcz42_1, hfz42_0, hfz42_1⟩ := zC2 BK223.out))
                        refine bodyPost_ret (results_cell_row rfl _ _ gb223 72 #[.int .i64 0, .bool false] (0, 0) _ rfl (by refine zB ?_; refine blk_put (cs := #[.int .i64 0, .bool x224001_4]) ?_ 1 _ rfl; refine zB ?_; refine blk_put (cs := #[.int .i64 x224000_4, .bool x224001_4]) ?_ 0 _ rfl; refine zB (blk_far ?_ NB223_226.out _); refine zB (blk_far ?_ NB223_226.out _); refine zB ?_; exact BK223.out) Tryz.underlying72 rfl (by kernel_rfl)) rfl ?_
                        exact ⟨by first | rfl | (simp [errW_none, errW_some] <;> rfl) | (simp [*, errW_none, errW_some] <;> rfl), by repeat first | with_reducible exact HB.out | refine zS ?_ | refine below_set ?_ GE223.out | refine below_set ?_ GE226.out | exact HB.out⟩
end Go.Proofs.YtmdmpafdpgdpoaaGreatDoor.P

namespace Go.Proofs.YtmdmpafdpgdpoaaGreatDoor.P
open Go.RowKit Go.Proofs.YtmdmpafdpgdpoaaGreatDoorW.PrintWords Go.Proofs.YtmdmpafdpgdpoaaGreatDoorW.PrintLast Go.Proofs.YtmdmpafdpgdpoaaGreatDoorW.PrintMore
attribute [local go_sem] max2_int min2_int max_two min_two max_three min_three max_four min_four   -- for this text's walks alone
set_option linter.unusedVariables false
set_option linter.unusedSimpArgs false
def pannierref03_Num.f (k : Nat) (a0_0 : Int) (a0_1 : Int) (a0_2 : ByteArray) : Option (Int × Bool × ByteArray × Int × Int × ByteArray) := (pannierref03_Good.f a0_0 a0_1 a0_2).bind fun t230 => (if t230 = true then (if a0_0 = 4 then (some (0, false, (⟨#[]⟩ : ByteArray), a0_0, a0_1, a0_2)) else (if a0_0 = 3 then ((pannierref01_Parse.f k a0_2).bind fun bt234 => (if bt234.2 = true then (some (bt234.1, false, (⟨#[]⟩ : ByteArray), 0, 0, (⟨#[]⟩ : ByteArray))) else ((pannierref03_Fail.f 3).bind fun bt237 => (some (0, false, (⟨#[]⟩ : ByteArray), bt237.1, bt237.2.1, bt237.2.2))))) else (some (a0_1, false, (⟨#[]⟩ : ByteArray), 0, 0, (⟨#[]⟩ : ByteArray))))) else ((pannierref03_Fail.f 3).bind fun bt231 => (some (0, false, (⟨#[]⟩ : ByteArray), bt231.1, bt231.2.1, bt231.2.2))))
set_option maxHeartbeats 8000000 in
set_option maxRecDepth 100000 in
theorem pannierref03_Num.calls (k : Nat) (a0_0 : Int) (a0_1 : Int) (a0_2 : ByteArray) (r1 : Int) (r2 : Bool) (r3 : ByteArray) (r4 : Int) (r5 : Int) (r6 : ByteArray) (w : World) (h : pannierref03_Num.f k a0_0 a0_1 a0_2 = some (r1, r2, r3, r4, r5, r6)) :
    Calls Tryz.prog 52 #[.agg #[.int .i64 a0_0, .int .i64 a0_1, .string a0_2]] w fun e w' => e = .returned (.agg #[.int .i64 r1, .bool r2, .string r3, .int .i64 r4, .int .i64 r5, .string r6]) ∧ Below w.heap.size w w' := by
  have hu26 := Tryz.underlying26
  have hu69 := Tryz.underlying69
  have hu72 := Tryz.underlying72
  have HB := Aside0.mk (Below.refl w.heap.size w)
  have H : ((pannierref03_Good.f a0_0 a0_1 a0_2).bind fun t230 => (if t230 = true then (if a0_0 = 4 then (some (0, false, (⟨#[]⟩ : ByteArray), a0_0, a0_1, a0_2)) else (if a0_0 = 3 then ((pannierref01_Parse.f k a0_2).bind fun bt234 => (if bt234.2 = true then (some (bt234.1, false, (⟨#[]⟩ : ByteArray), 0, 0, (⟨#[]⟩ : ByteArray))) else ((pannierref03_Fail.f 3).bind fun bt237 => (some (0, false, (⟨#[]⟩ : ByteArray), bt237.1, bt237.2.1, bt237.2.2))))) else (some (a0_1, false, (⟨#[]⟩ : ByteArray), 0, 0, (⟨#[]⟩ : ByteArray))))) else ((pannierref03_Fail.f 3).bind fun bt231 => (some (0, false, (⟨#[]⟩ : ByteArray), bt231.1, bt231.2.1, bt231.2.2))))) = some (r1, r2, r3, r4, r5, r6) := h
  clear h
  replace H := Option.bind_eq_some_iff.mp H
  obtain ⟨t230, A20, H⟩ := H
  replace H : (if t230 = true then (if a0_0 = 4 then (some (0, false, (⟨#[]⟩ : ByteArray), a0_0, a0_1, a0_2)) else (if a0_0 = 3 then ((pannierref01_Parse.f k a0_2).bind fun bt234 => (if bt234.2 = true then (some (bt234.1, false, (⟨#[]⟩ : ByteArray), 0, 0, (⟨#[]⟩ : ByteArray))) else ((pannierref03_Fail.f 3).bind fun bt237 => (some (0, false, (⟨#[]⟩ : ByteArray), bt237.1, bt237.2.1, bt237.2.2))))) else (some (a0_1, false, (⟨#[]⟩ : ByteArray), 0, 0, (⟨#[]⟩ : ByteArray))))) else ((pannierref03_Fail.f 3).bind fun bt231 => (some (0, false, (⟨#[]⟩ : ByteArray), bt231.1, bt231.2.1, bt231.2.2)))) = some (r1, r2, r3, r4, r5, r6) := H
  have A2 := Aside0.mk A20
  clear A20
  by_cases c3 : t230 = true
  · subst c3
    have H1 : (if a0_0 = 4 then (some (0, false, (⟨#[]⟩ : ByteArray), a0_0, a0_1, a0_2)) else (if a0_0 = 3 then ((pannierref01_Parse.f k a0_2).bind fun bt234 => (if bt234.2 = true then (some (bt234.1, false, (⟨#[]⟩ : ByteArray), 0, 0, (⟨#[]⟩ : ByteArray))) else ((pannierref03_Fail.f 3).bind fun bt237 => (some (0, false, (⟨#[]⟩ : ByteArray), bt237.1, bt237.2.1, bt237.2.2))))) else (some (a0_1, false, (⟨#[]⟩ : ByteArray), 0, 0, (⟨#[]⟩ : ByteArray))))) = some (r1, r2, r3, r4, r5, r6) := by rw [if_pos rfl] at H; exact H
    clear H
    have H := H1
    clear H1
    by_cases c4 : a0_0 = 4
    · rw [if_pos c4] at H
      have c4b0 : (a0_0 == 4) = true := beq_iff_eq.mpr c4
      have c4b1 : (a0_0 != 4) = false := bne_eq_false_iff_eq.mpr c4
      clear c4
      simp only [Option.some.injEq, Prod.mk.injEq] at H
      obtain ⟨rfl, rfl, rfl, rfl, rfl, rfl⟩ := H
      go_enter Tryz.func52, Tryz.ntmps52
      go_wp2_with (first | ((with_reducible refine gate_dst (N := 1) rfl ?_); refine box_event ?hg (N := 1) ?hd (cs := #[.int .i64 a0_0, .int .i64 a0_1, .string a0_2]) (t := 26) ?hr ?_; (case hd => rfl); (case hg => rfl); (case hr => first | (go_simp; done) | (go_simp; rfl)); intro gb228 hg w5 hbox hb; have n0_ := Aside0.mk (below_step (by repeat first | with_reducible exact HB.out | refine zS ?_ | exact HB.out) hb); have n1_ := Aside0.mk (hbox); have n2_ := Aside0.mk ((by rw [hg]; exact (below_size (by repeat first | with_reducible exact HB.out | refine zS ?_ | exact HB.out)) : w.heap.size ≤ gb228)); have n3_ := n2_; clear HB; have HB := n0_; have BK228 := n1_; have GW228 := n2_; have GE228 := n3_; clear n0_ n1_ n2_ n3_; clear hb hbox hg) | ((with_reducible refine gate_dst (N := 2) rfl ?_); refine box_event ?hg (N := 2) ?hd (cs := #[.int .i64 0, .bool false, .string (⟨#[]⟩ : ByteArray), .int .i64 0, .int .i64 0, .string (⟨#[]⟩ : ByteArray)]) (t := 69) ?hr ?_; (case hd => rfl); (case hg => rfl); (case hr => first | (go_simp; done) | (go_simp; rfl)); intro gb229 hg w6 hbox hb; have n0_ := Aside0.mk (blk_below (g := gb228) (o := .cells #[.int .i64 a0_0, .int .i64 a0_1, .string a0_2] 26 (0, 0)) (zB BK228.out) hb); have n1_ := Aside0.mk (below_step (by repeat first | with_reducible exact HB.out | refine zS ?_ | refine below_set ?_ GE228.out | exact HB.out) hb); have n2_ := Aside0.mk (hbox); have n3_ := Aside0.mk ((by rw [hg]; exact (below_size (by repeat first | with_reducible exact HB.out | refine zS ?_ | refine below_set ?_ GE228.out | exact HB.out)) : w.heap.size ≤ gb229)); have n4_ := n3_; have n5_ := Aside0.mk ((by rw [hg]; exact Nat.ne_of_lt (blk_lt (g := gb228) (o := .cells #[.int .i64 a0_0, .int .i64 a0_1, .string a0_2] 26 (0, 0)) (zB BK228.out)) : gb228 ≠ gb229)); have n6_ := Aside0.mk ((by rw [hg]; exact Nat.ne_of_gt (blk_lt (g := gb228) (o := .cells #[.int .i64 a0_0, .int .i64 a0_1, .string a0_2] 26 (0, 0)) (zB BK228.out)) : gb229 ≠ gb228)); clear BK228; clear HB; have BK228 := n0_; have HB := n1_; have BK229 := n2_; have GW229 := n3_; have GE229 := n4_; have NB228_229 := n5_; have NB229_228 := n6_; clear n0_ n1_ n2_ n3_ n4_ n5_ n6_; clear hb hbox hg; have hnb7 := NB228_229.out; have hnc7 := NB229_228.out; obtain ⟨hcz8_0, hcz8_1, hcz8_2, hfz8_0, hfz8_1, hfz8_2⟩ := zC3 BK228.out) | ((with_reducible refine gate_callee (f := 66) rfl ?_); refine goesL_ (some 5) rfl rfl Tryz.func66 (by kernel_rfl) rfl #[.agg #[.int .i64 a0_0, .int .i64 a0_1, .string a0_2]] rfl (by (try simp only [List.map_toArray, List.map_cons, List.map_nil]); first | done | rfl | (simp only [List.length_drop, List.length_take]; rfl)) ?_; (with_reducible refine (pannierref03_Good.calls a0_0 a0_1 a0_2 true _ A2.out).mono ?_); rintro e w9 ⟨rfl, hb⟩; refine ⟨_, rfl, ?_⟩; have n0_ := Aside0.mk (blk_below (g := gb228) (o := .cells #[.int .i64 a0_0, .int .i64 a0_1, .string a0_2] 26 (0, 0)) (zB BK228.out) hb); have n1_ := Aside0.mk (blk_below (g := gb229) (o := .cells #[.int .i64 0, .bool false, .string (⟨#[]⟩ : ByteArray), .int .i64 0, .int .i64 0, .string (⟨#[]⟩ : ByteArray)] 69 (0, 0)) (zB BK229.out) hb); have n2_ := Aside0.mk (below_step (by repeat first | with_reducible exact HB.out | refine zS ?_ | refine below_set ?_ GE228.out | refine below_set ?_ GE229.out | exact HB.out) hb); clear BK228; clear BK229; clear HB; have BK228 := n0_; have BK229 := n1_; have HB := n2_; clear n0_ n1_ n2_; (try clear hb); (try clear hb2); (try clear hk); (try clear hi); obtain ⟨hcz10_0, hcz10_1, hcz10_2, hfz10_0, hfz10_1, hfz10_2⟩ := zC3 BK228.out; obtain ⟨hcz11_0, hcz11_1, hcz11_2, hcz11_3, hcz11_4, hcz11_5, hfz11_0, hfz11_1, hfz11_2, hfz11_3, hfz11_4, hfz11_5⟩ := zC6 BK229.out))
      refine bodyPost_ret (results_cell_row rfl _ _ gb229 69 #[.int .i64 0, .bool false, .string (⟨#[]⟩ : ByteArray), .int .i64 a0_0, .int .i64 a0_1, .string a0_2] (0, 0) _ rfl (by refine zB ?_; refine blk_put (cs := #[.int .i64 0, .bool false, .string (⟨#[]⟩ : ByteArray), .int .i64 a0_0, .int .i64 a0_1, .string (⟨#[]⟩ : ByteArray)]) ?_ 5 _ rfl; refine zB ?_; refine blk_put (cs := #[.int .i64 0, .bool false, .string (⟨#[]⟩ : ByteArray), .int .i64 a0_0, .int .i64 0, .string (⟨#[]⟩ : ByteArray)]) ?_ 4 _ rfl; refine zB ?_; refine blk_put (cs := #[.int .i64 0, .bool false, .string (⟨#[]⟩ : ByteArray), .int .i64 0, .int .i64 0, .string (⟨#[]⟩ : ByteArray)]) ?_ 3 _ rfl; refine zB ?_; refine blk_put (cs := #[.int .i64 0, .bool false, .string (⟨#[]⟩ : ByteArray), .int .i64 0, .int .i64 0, .string (⟨#[]⟩ : ByteArray)]) ?_ 2 _ rfl; refine zB ?_; refine blk_put (cs := #[.int .i64 0, .bool false, .string (⟨#[]⟩ : ByteArray), .int .i64 0, .int .i64 0, .string (⟨#[]⟩ : ByteArray)]) ?_ 1 _ rfl; refine zB ?_; refine blk_put (cs := #[.int .i64 0, .bool false, .string (⟨#[]⟩ : ByteArray), .int .i64 0, .int .i64 0, .string (⟨#[]⟩ : ByteArray)]) ?_ 0 _ rfl; refine zB ?_; exact BK229.out) Tryz.underlying69 rfl (by kernel_rfl)) rfl ?_
      exact ⟨by first | rfl | (simp [errW_none, errW_some] <;> rfl) | (simp [*, errW_none, errW_some] <;> rfl), by repeat first | with_reducible exact HB.out | refine zS ?_ | refine below_set ?_ GE228.out | refine below_set ?_ GE229.out | exact HB.out⟩
    · rw [if_neg c4] at H
      have c4b0 : (a0_0 == 4) = false := beq_eq_false_iff_ne.mpr c4
      have c4b1 : (a0_0 != 4) = true := bne_iff_ne.mpr c4
      by_cases c12 : a0_0 = 3
      · rw [if_pos c12] at H
        have c12b0 : (a0_0 == 3) = true := beq_iff_eq.mpr c12
        have c12b1 : (a0_0 != 3) = false := bne_eq_false_iff_eq.mpr c12
        clear c12
        replace H := Option.bind_eq_some_iff.mp H
        obtain ⟨⟨t234, t235⟩, A130, H⟩ := H
        replace H : (if t235 = true then (some (t234, false, (⟨#[]⟩ : ByteArray), 0, 0, (⟨#[]⟩ : ByteArray))) else ((pannierref03_Fail.f 3).bind fun bt237 => (some (0, false, (⟨#[]⟩ : ByteArray), bt237.1, bt237.2.1, bt237.2.2)))) = some (r1, r2, r3, r4, r5, r6) := H
        have A13 := Aside0.mk A130
        clear A130
        by_cases c14 : t235 = true
        · subst c14
          have H1 : (some (t234, false, (⟨#[]⟩ : ByteArray), 0, 0, (⟨#[]⟩ : ByteArray))) = some (r1, r2, r3, r4, r5, r6) := by rw [if_pos rfl] at H; exact H
          clear H
          have H := H1
          clear H1
          simp only [Option.some.injEq, Prod.mk.injEq] at H
          obtain ⟨rfl, rfl, rfl, rfl, rfl, rfl⟩ := H
          go_enter Tryz.func52, Tryz.ntmps52
          go_wp2_with (first | ((with_reducible refine gate_dst (N := 1) rfl ?_); refine box_event ?hg (N := 1) ?hd (cs := #[.int .i64 a0_0, .int .i64 a0_1, .string a0_2]) (t := 26) ?hr ?_; (case hd => rfl); (case hg => rfl); (case hr => first | (go_simp; done) | (go_simp; rfl)); intro gb228 hg w15 hbox hb; have n0_ := Aside0.mk (below_step (by repeat first | with_reducible exact HB.out | refine zS ?_ | exact HB.out) hb); have n1_ := Aside0.mk (hbox); have n2_ := Aside0.mk ((by rw [hg]; exact (below_size (by repeat first | with_reducible exact HB.out | refine zS ?_ | exact HB.out)) : w.heap.size ≤ gb228)); have n3_ := n2_; clear HB; have HB := n0_; have BK228 := n1_; have GW228 := n2_; have GE228 := n3_; clear n0_ n1_ n2_ n3_; clear hb hbox hg) | ((with_reducible refine gate_dst (N := 2) rfl ?_); refine box_event ?hg (N := 2) ?hd (cs := #[.int .i64 0, .bool false, .string (⟨#[]⟩ : ByteArray), .int .i64 0, .int .i64 0, .string (⟨#[]⟩ : ByteArray)]) (t := 69) ?hr ?_; (case hd => rfl); (case hg => rfl); (case hr => first | (go_simp; done) | (go_simp; rfl)); intro gb229 hg w16 hbox hb; have n0_ := Aside0.mk (blk_below (g := gb228) (o := .cells #[.int .i64 a0_0, .int .i64 a0_1, .string a0_2] 26 (0, 0)) (zB BK228.out) hb); have n1_ := Aside0.mk (below_step (by repeat first | with_reducible exact HB.out | refine zS ?_ | refine below_set ?_ GE228.out | exact HB.out) hb); have n2_ := Aside0.mk (hbox); have n3_ := Aside0.mk ((by rw [hg]; exact (below_size (by repeat first | with_reducible exact HB.out | refine zS ?_ | refine below_set ?_ GE228.out | exact HB.out)) : w.heap.size ≤ gb229)); have n4_ := n3_; have n5_ := Aside0.mk ((by rw [hg]; exact Nat.ne_of_lt (blk_lt (g := gb228) (o := .cells #[.int .i64 a0_0, .int .i64 a0_1, .string a0_2] 26 (0, 0)) (zB BK228.out)) : gb228 ≠ gb229)); have n6_ := Aside0.mk ((by rw [hg]; exact Nat.ne_of_gt (blk_lt (g := gb228) (o := .cells #[.int .i64 a0_0, .int .i64 a0_1, .string a0_2] 26 (0, 0)) (zB BK228.out)) : gb229 ≠ gb228)); clear BK228; clear HB; have BK228 := n0_; have HB := n1_; have BK229 := n2_; have GW229 := n3_; have GE229 := n4_; have NB228_229 := n5_; have NB229_228 := n6_; clear n0_ n1_ n2_ n3_ n4_ n5_ n6_; clear hb hbox hg; have hnb17 := NB228_229.out; have hnc17 := NB229_228.out; obtain ⟨hcz18_0, hcz18_1, hcz18_2, hfz18_0, hfz18_1, hfz18_2⟩ := zC3 BK228.out) | ((with_reducible refine gate_callee (f := 66) rfl ?_); refine goesL_ (some 5) rfl rfl Tryz.func66 (by kernel_rfl) rfl #[.agg #[.int .i64 a0_0, .int .i64 a0_1, .string a0_2]] rfl (by (try simp only [List.map_toArray, List.map_cons, List.map_nil]); first | done | rfl | (simp only [List.length_drop, List.length_take]; rfl)) ?_; (with_reducible refine (pannierref03_Good.calls a0_0 a0_1 a0_2 true _ A2.out).mono ?_); rintro e w19 ⟨rfl, hb⟩; refine ⟨_, rfl, ?_⟩; have n0_ := Aside0.mk (blk_below (g := gb228) (o := .cells #[.int .i64 a0_0, .int .i64 a0_1, .string a0_2] 26 (0, 0)) (zB BK228.out) hb); have n1_ := Aside0.mk (blk_below (g := gb229) (o := .cells #[.int .i64 0, .bool false, .string (⟨#[]⟩ : ByteArray), .int .i64 0, .int .i64 0, .string (⟨#[]⟩ : ByteArray)] 69 (0, 0)) (zB BK229.out) hb); have n2_ := Aside0.mk (below_step (by repeat first | with_reducible exact HB.out | refine zS ?_ | refine below_set ?_ GE228.out | refine below_set ?_ GE229.out | exact HB.out) hb); clear BK228; clear BK229; clear HB; have BK228 := n0_; have BK229 := n1_; have HB := n2_; clear n0_ n1_ n2_; (try clear hb); (try clear hb2); (try clear hk); (try clear hi); obtain ⟨hcz20_0, hcz20_1, hcz20_2, hfz20_0, hfz20_1, hfz20_2⟩ := zC3 BK228.out) | ((with_reducible refine gate_callee (f := 68) rfl ?_); refine goesL_ (some 19) rfl rfl Tryz.func68 (by kernel_rfl) rfl #[.string a0_2] rfl (by (try simp only [List.map_toArray, List.map_cons, List.map_nil]); first | done | rfl | (simp only [List.length_drop, List.length_take]; rfl)) ?_; (with_reducible refine (pannierref01_Parse.calls k a0_2 t234 true _ A13.out).mono ?_); rintro e w21 ⟨rfl, hb⟩; refine ⟨_, rfl, ?_⟩; have n0_ := Aside0.mk (blk_below (g := gb228) (o := .cells #[.int .i64 a0_0, .int .i64 a0_1, .string a0_2] 26 (0, 0)) (zB BK228.out) hb); have n1_ := Aside0.mk (blk_below (g := gb229) (o := .cells #[.int .i64 0, .bool false, .string (⟨#[]⟩ : ByteArray), .int .i64 0, .int .i64 0, .string (⟨#[]⟩ : ByteArray)] 69 (0, 0)) (zB BK229.out) hb); have n2_ := Aside0.mk (below_step (by repeat first | with_reducible exact HB.out | refine zS ?_ | refine below_set ?_ GE228.out | refine below_set ?_ GE229.out | exact HB.out) hb); clear BK228; clear BK229; clear HB; have BK228 := n0_; have BK229 := n1_; have HB := n2_; clear n0_ n1_ n2_; (try clear hb); (try clear hb2); (try clear hk); (try clear hi)) | ((with_reducible refine gate_dst (N := 3) rfl ?_); refine box_event ?hg (N := 3) ?hd (cs := #[.int .i64 0, .bool false]) (t := 72) ?hr ?_; (case hd => rfl); (case hg => rfl); (case hr => first | (go_simp; done) | (go_simp; rfl)); intro gb236 hg w22 hbox hb; have n0_ := Aside0.mk (blk_below (g := gb228) (o := .cells #[.int .i64 a0_0, .int .i64 a0_1, .string a0_2] 26 (0, 0)) (zB BK228.out) hb); have n1_ := Aside0.mk (blk_below (g := gb229) (o := .cells #[.int .i64 0, .bool false, .string (⟨#[]⟩ : ByteArray), .int .i64 0, .int .i64 0, .string (⟨#[]⟩ : ByteArray)] 69 (0, 0)) (zB BK229.out) hb); have n2_ := Aside0.mk (below_step (by repeat first | with_reducible exact HB.out | refine zS ?_ | refine below_set ?_ GE228.out | refine below_set ?_ GE229.out | exact HB.out) hb); have n3_ := Aside0.mk (hbox); have n4_ := Aside0.mk ((by rw [hg]; exact (below_size (by repeat first | with_reducible exact HB.out | refine zS ?_ | refine below_set ?_ GE228.out | refine below_set ?_ GE229.out | exact HB.out)) : w.heap.size ≤ gb236)); have n5_ := n4_; have n6_ := Aside0.mk ((by rw [hg]; exact Nat.ne_of_lt (blk_lt (g := gb228) (o := .cells #[.int .i64 a0_0, .int .i64 a0_1, .string a0_2] 26 (0, 0)) (zB BK228.out)) : gb228 ≠ gb236)); have n7_ := Aside0.mk ((by rw [hg]; exact Nat.ne_of_gt (blk_lt (g := gb228) (o := .cells #[.int .i64 a0_0, .int .i64 a0_1, .string a0_2] 26 (0, 0)) (zB BK228.out)) : gb236 ≠ gb228)); have n8_ := Aside0.mk ((by rw [hg]; exact Nat.ne_of_lt (blk_lt (g := gb229) (o := .cells #[.int .i64 0, .bool false, .string (⟨#[]⟩ : ByteArray), .int .i64 0, .int .i64 0, .string (⟨#[]⟩ : ByteArray)] 69 (0, 0)) (zB BK229.out)) : gb229 ≠ gb236)); have n9_ := Aside0.mk ((by rw [hg]; exact Nat.ne_of_gt (blk_lt (g := gb229) (o := .cells #[.int .i64 0, .bool false, .string (⟨#[]⟩ : ByteArray), .int .i64 0, .int .i64 0, .string (⟨#[]⟩ : ByteArray)] 69 (0, 0)) (zB BK229.out)) : gb236 ≠ gb229)); clear BK228; clear BK229; clear HB; have BK228 := n0_; have BK229 := n1_; have HB := n2_; have BK236 := n3_; have GW236 := n4_; have GE236 := n5_; have NB228_236 := n6_; have NB236_228 := n7_; have NB229_236 := n8_; have NB236_229 := n9_; clear n0_ n1_ n2_ n3_ n4_ n5_ n6_ n7_ n8_ n9_; clear hb hbox hg; have hnb23 := NB236_228.out; have hnc23 := NB228_236.out; have hnb24 := NB236_229.out; have hnc24 := NB229_236.out; obtain ⟨hcz25_0, hcz25_1, hfz25_0, hfz25_1⟩ := zC2 BK236.out; obtain ⟨hcz26_0, hcz26_1, hcz26_2, hcz26_3, hcz26_4, hcz26_5, hfz26_0, hfz26_1, hfz26_2, hfz26_3, hfz26_4, hfz26_5⟩ := zC6 BK229.out))
          refine bodyPost_ret (results_cell_row rfl _ _ gb229 69 #[.int .i64 t234, .bool false, .string (⟨#[]⟩ : ByteArray), .int .i64 0, .int .i64 0, .string (⟨#[]⟩ : ByteArray)] (0, 0) _ rfl (by refine zB ?_; refine blk_put (cs := #[.int .i64 t234, .bool false, .string (⟨#[]⟩ : ByteArray), .int .i64 0, .int .i64 0, .string (⟨#[]⟩ : ByteArray)]) ?_ 5 _ rfl; refine zB ?_; refine blk_put (cs := #[.int .i64 t234, .bool false, .string (⟨#[]⟩ : ByteArray), .int .i64 0, .int .i64 0, .string (⟨#[]⟩ : ByteArray)]) ?_ 4 _ rfl; refine zB ?_; refine blk_put (cs := #[.int .i64 t234, .bool false, .string (⟨#[]⟩ : ByteArray), .int .i64 0, .int .i64 0, .string (⟨#[]⟩ : ByteArray)]) ?_ 3 _ rfl; refine zB ?_; refine blk_put (cs := #[.int .i64 t234, .bool false, .string (⟨#[]⟩ : ByteArray), .int .i64 0, .int .i64 0, .string (⟨#[]⟩ : ByteArray)]) ?_ 2 _ rfl; refine zB ?_; refine blk_put (cs := #[.int .i64 t234, .bool false, .string (⟨#[]⟩ : ByteArray), .int .i64 0, .int .i64 0, .string (⟨#[]⟩ : ByteArray)]) ?_ 1 _ rfl; refine zB ?_; refine blk_put (cs := #[.int .i64 0, .bool false, .string (⟨#[]⟩ : ByteArray), .int .i64 0, .int .i64 0, .string (⟨#[]⟩ : ByteArray)]) ?_ 0 _ rfl; refine zB (blk_far ?_ NB229_236.out _); refine zB (blk_far ?_ NB229_236.out _); refine zB ?_; exact BK229.out) Tryz.underlying69 rfl (by kernel_rfl)) rfl ?_
          exact ⟨by first | rfl | (simp [errW_none, errW_some] <;> rfl) | (simp [*, errW_none, errW_some] <;> rfl), by repeat first | with_reducible exact HB.out | refine zS ?_ | refine below_set ?_ GE228.out | refine below_set ?_ GE229.out | refine below_set ?_ GE236.out | exact HB.out⟩
        · replace c14 := Bool.eq_false_iff.mpr c14
          subst c14
          have H1 : ((pannierref03_Fail.f 3).bind fun bt237 => (some (0, false, (⟨#[]⟩ : ByteArray), bt237.1, bt237.2.1, bt237.2.2))) = some (r1, r2, r3, r4, r5, r6) := by rw [if_neg (show ¬ (false = true) by decide)] at H; exact H
          clear H
          have H := H1
          clear H1
          replace H := Option.bind_eq_some_iff.mp H
          obtain ⟨⟨t237, t238, t239⟩, A270, H⟩ := H
          replace H : (some (0, false, (⟨#[]⟩ : ByteArray), t237, t238, t239)) = some (r1, r2, r3, r4, r5, r6) := H
          have A27 := Aside0.mk A270
          clear A270
          simp only [Option.some.injEq, Prod.mk.injEq] at H
          obtain ⟨rfl, rfl, rfl, rfl, rfl, rfl⟩ := H
          go_enter Tryz.func52, Tryz.ntmps52
          go_wp2_with (first | ((with_reducible refine gate_dst (N := 1) rfl ?_); refine box_event ?hg (N := 1) ?hd (cs := #[.int .i64 a0_0, .int .i64 a0_1, .string a0_2]) (t := 26) ?hr ?_; (case hd => rfl); (case hg => rfl); (case hr => first | (go_simp; done) | (go_simp; rfl)); intro gb228 hg w28 hbox hb; have n0_ := Aside0.mk (below_step (by repeat first | with_reducible exact HB.out | refine zS ?_ | exact HB.out) hb); have n1_ := Aside0.mk (hbox); have n2_ := Aside0.mk ((by rw [hg]; exact (below_size (by repeat first | with_reducible exact HB.out | refine zS ?_ | exact HB.out)) : w.heap.size ≤ gb228)); have n3_ := n2_; clear HB; have HB := n0_; have BK228 := n1_; have GW228 := n2_; have GE228 := n3_; clear n0_ n1_ n2_ n3_; clear hb hbox hg) | ((with_reducible refine gate_dst (N := 2) rfl ?_); refine box_event ?hg (N := 2) ?hd (cs := #[.int .i64 0, .bool false, .string (⟨#[]⟩ : ByteArray), .int .i64 0, .int .i64 0, .string (⟨#[]⟩ : ByteArray)]) (t := 69) ?hr ?_; (case hd => rfl); (case hg => rfl); (case hr => first | (go_simp; done) | (go_simp; rfl)); intro gb229 hg w29 hbox hb; have n0_ := Aside0.mk (blk_below (g := gb228) (o := .cells #[.int .i64 a0_0, .int .i64 a0_1, .string a0_2] 26 (0, 0)) (zB BK228.out) hb); have n1_ := Aside0.mk (below_step (by repeat first | with_reducible exact HB.out | refine zS ?_ | refine below_set ?_ GE228.out | exact HB.out) hb); have n2_ := Aside0.mk (hbox); have n3_ := Aside0.mk ((by rw [hg]; exact (below_size (by repeat first | with_reducible exact HB.out | refine zS ?_ | refine below_set ?_ GE228.out | exact HB.out)) : w.heap.size ≤ gb229)); have n4_ := n3_; have n5_ := Aside0.mk ((by rw [hg]; exact Nat.ne_of_lt (blk_lt (g := gb228) (o := .cells #[.int .i64 a0_0, .int .i64 a0_1, .string a0_2] 26 (0, 0)) (zB BK228.out)) : gb228 ≠ gb229)); have n6_ := Aside0.mk ((by rw [hg]; exact Nat.ne_of_gt (blk_lt (g := gb228) (o := .cells #[.int .i64 a0_0, .int .i64 a0_1, .string a0_2] 26 (0, 0)) (zB BK228.out)) : gb229 ≠ gb228)); clear BK228; clear HB; have BK228 := n0_; have HB := n1_; have BK229 := n2_; have GW229 := n3_; have GE229 := n4_; have NB228_229 := n5_; have NB229_228 := n6_; clear n0_ n1_ n2_ n3_ n4_ n5_ n6_; clear hb hbox hg; have hnb30 := NB228_229.out; have hnc30 := NB229_228.out; obtain ⟨hcz31_0, hcz31_1, hcz31_2, hfz31_0, hfz31_1, hfz31_2⟩ := zC3 BK228.out) | ((with_reducible refine gate_callee (f := 66) rfl ?_); refine goesL_ (some 5) rfl rfl Tryz.func66 (by kernel_rfl) rfl #[.agg #[.int .i64 a0_0, .int .i64 a0_1, .string a0_2]] rfl (by (try simp only [List.map_toArray, List.map_cons, List.map_nil]); first | done | rfl | (simp only [List.length_drop, List.length_take]; rfl)) ?_; (with_reducible refine (pannierref03_Good.calls a0_0 a0_1 a0_2 true _ A2.out).mono ?_); rintro e w32 ⟨rfl, hb⟩; refine ⟨_, rfl, ?_⟩; have n0_ := Aside0.mk (blk_below (g := gb228) (o := .cells #[.int .i64 a0_0, .int .i64 a0_1, .string a0_2] 26 (0, 0)) (zB BK228.out) hb); have n1_ := Aside0.mk (blk_below (g := gb229) (o := .cells #[.int .i64 0, .bool false, .string (⟨#[]⟩ : ByteArray), .int .i64 0, .int .i64 0, .string (⟨#[]⟩ : ByteArray)] 69 (0, 0)) (zB BK229.out) hb); have n2_ := Aside0.mk (below_step (by repeat first | with_reducible exact HB.out | refine zS ?_ | refine below_set ?_ GE228.out | refine below_set ?_ GE229.out | exact HB.out) hb); clear BK228; clear BK229; clear HB; have BK228 := n0_; have BK229 := n1_; have HB := n2_; clear n0_ n1_ n2_; (try clear hb); (try clear hb2); (try clear hk); (try clear hi); obtain ⟨hcz33_0, hcz33_1, hcz33_2, hfz33_0, hfz33_1, hfz33_2⟩ := zC3 BK228.out) | ((with_reducible refine gate_callee (f := 68) rfl ?_); refine goesL_ (some 19) rfl rfl Tryz.func68 (by kernel_rfl) rfl #[.string a0_2] rfl (by (try simp only [List.map_toArray, List.map_cons, List.map_nil]); first | done | rfl | (simp only [List.length_drop, List.length_take]; rfl)) ?_; (with_reducible refine (pannierref01_Parse.calls k a0_2 t234 false _ A13.out).mono ?_); rintro e w34 ⟨rfl, hb⟩; refine ⟨_, rfl, ?_⟩; have n0_ := Aside0.mk (blk_below (g := gb228) (o := .cells #[.int .i64 a0_0, .int .i64 a0_1, .string a0_2] 26 (0, 0)) (zB BK228.out) hb); have n1_ := Aside0.mk (blk_below (g := gb229) (o := .cells #[.int .i64 0, .bool false, .string (⟨#[]⟩ : ByteArray), .int .i64 0, .int .i64 0, .string (⟨#[]⟩ : ByteArray)] 69 (0, 0)) (zB BK229.out) hb); have n2_ := Aside0.mk (below_step (by repeat first | with_reducible exact HB.out | refine zS ?_ | refine below_set ?_ GE228.out | refine below_set ?_ GE229.out | exact HB.out) hb); clear BK228; clear BK229; clear HB; have BK228 := n0_; have BK229 := n1_; have HB := n2_; clear n0_ n1_ n2_; (try clear hb); (try clear hb2); (try clear hk); (try clear hi)) | ((with_reducible refine gate_dst (N := 3) rfl ?_); refine box_event ?hg (N := 3) ?hd (cs := #[.int .i64 0, .bool false]) (t := 72) ?hr ?_; (case hd => rfl); (case hg => rfl); (case hr => first | (go_simp; done) | (go_simp; rfl)); intro gb236 hg w35 hbox hb; have n0_ := Aside0.mk (blk_below (g := gb228) (o := .cells #[.int .i64 a0_0, .int .i64 a0_1, .string a0_2] 26 (0, 0)) (zB BK228.out) hb); have n1_ := Aside0.mk (blk_below (g := gb229) (o := .cells #[.int .i64 0, .bool false, .string (⟨#[]⟩ : ByteArray), .int .i64 0, .int .i64 0, .string (⟨#[]⟩ : ByteArray)] 69 (0, 0)) (zB BK229.out) hb); have n2_ := Aside0.mk (below_step (by repeat first | with_reducible exact HB.out | refine zS ?_ | refine below_set ?_ GE228.out | refine below_set ?_ GE229.out | exact HB.out) hb); have n3_ := Aside0.mk (hbox); have n4_ := Aside0.mk ((by rw [hg]; exact (below_size (by repeat first | with_reducible exact HB.out | refine zS ?_ | refine below_set ?_ GE228.out | refine below_set ?_ GE229.out | exact HB.out)) : w.heap.size ≤ gb236)); have n5_ := n4_; have n6_ := Aside0.mk ((by rw [hg]; exact Nat.ne_of_lt (blk_lt (g := gb228) (o := .cells #[.int .i64 a0_0, .int .i64 a0_1, .string a0_2] 26 (0, 0)) (zB BK228.out)) : gb228 ≠ gb236)); have n7_ := Aside0.mk ((by rw [hg]; exact Nat.ne_of_gt (blk_lt (g := gb228) (o := .cells #[.int .i64 a0_0, .int .i64 a0_1, .string a0_2] 26 (0, 0)) (zB BK228.out)) : gb236 ≠ gb228)); have n8_ := Aside0.mk ((by rw [hg]; exact Nat.ne_of_lt (blk_lt (g := gb229) (o := .cells #[.int .i64 0, .bool false, .string (⟨#[]⟩ : ByteArray), .int .i64 0, .int .i64 0, .string (⟨#[]⟩ : ByteArray)] 69 (0, 0)) (zB BK229.out)) : gb229 ≠ gb236)); have n9_ := Aside0.mk ((by rw [hg]; exact Nat.ne_of_gt (blk_lt (g := gb229) (o := .cells #[.int .i64 0, .bool false, .string (⟨#[]⟩ : ByteArray), .int .i64 0, .int .i64 0, .string (⟨#[]⟩ : ByteArray)] 69 (0, 0)) (zB BK229.out)) : gb236 ≠ gb229)); clear BK228; clear BK229; clear HB; have BK228 := n0_; have BK229 := n1_; have HB := n2_; have BK236 := n3_; have GW236 := n4_; have GE236 := n5_; have NB228_236 := n6_; have NB236_228 := n7_; have NB229_236 := n8_; have NB236_229 := n9_; clear n0_ n1_ n2_ n3_ n4_ n5_ n6_ n7_ n8_ n9_; clear hb hbox hg; have hnb36 := NB236_228.out; have hnc36 := NB228_236.out; have hnb37 := NB236_229.out; have hnc37 := NB229_236.out; obtain ⟨hcz38_0, hcz38_1, hfz38_0, hfz38_1⟩ := zC2 BK236.out) | ((with_reducible refine gate_callee (f := 67) rfl ?_); refine goesL_ (some 23) rfl rfl Tryz.func67 (by kernel_rfl) rfl #[.int .i64 3] rfl (by (try simp only [List.map_toArray, List.map_cons, List.map_nil]); first | done | rfl | (simp only [List.length_drop, List.length_take]; rfl)) ?_; (with_reducible refine (pannierref03_Fail.calls 3 t237 t238 t239 _ A27.out).mono ?_); rintro e w39 ⟨rfl, hb⟩; refine ⟨_, rfl, ?_⟩; have n0_ := Aside0.mk (blk_below (g := gb228) (o := .cells #[.int .i64 a0_0, .int .i64 a0_1, .string a0_2] 26 (0, 0)) (by refine zB (blk_far ?_ NB228_236.out _); refine zB (blk_far ?_ NB228_236.out _); refine zB ?_; exact BK228.out) hb); have n1_ := Aside0.mk (blk_below (g := gb229) (o := .cells #[.int .i64 0, .bool false, .string (⟨#[]⟩ : ByteArray), .int .i64 0, .int .i64 0, .string (⟨#[]⟩ : ByteArray)] 69 (0, 0)) (by refine zB (blk_far ?_ NB229_236.out _); refine zB (blk_far ?_ NB229_236.out _); refine zB ?_; exact BK229.out) hb); have n2_ := Aside0.mk (blk_below (g := gb236) (o := .cells #[.int .i64 t234, .bool false] 72 (0, 0)) (by refine zB ?_; refine blk_put (cs := #[.int .i64 t234, .bool false]) ?_ 1 _ rfl; refine zB ?_; refine blk_put (cs := #[.int .i64 0, .bool false]) ?_ 0 _ rfl; refine zB ?_; exact BK236.out) hb); have n3_ := Aside0.mk (below_step (by repeat first | with_reducible exact HB.out | refine zS ?_ | refine below_set ?_ GE228.out | refine below_set ?_ GE229.out | refine below_set ?_ GE236.out | exact HB.out) hb); clear BK228; clear BK229; clear BK236; clear HB; have BK228 := n0_; have BK229 := n1_; have BK236 := n2_; have HB := n3_; clear n0_ n1_ n2_ n3_; (try clear hb); (try clear hb2); (try clear hk); (try clear hi); obtain ⟨hcz40_0, hcz40_1, hcz40_2, hcz40_3, hcz40_4, hcz40_5, hfz40_0, hfz40_1, hfz40_2, hfz40_3, hfz40_4, hfz40_5⟩ := zC6 BK229.out))
          refine bodyPost_ret (results_cell_row rfl _ _ gb229 69 #[.int .i64 0, .bool false, .string (⟨#[]⟩ : ByteArray), .int .i64 t237, .int .i64 t238, .string t239] (0, 0) _ rfl (by refine zB ?_; refine blk_put (cs := #[.int .i64 0, .bool false, .string (⟨#[]⟩ : ByteArray), .int .i64 t237, .int .i64 t238, .string (⟨#[]⟩ : ByteArray)]) ?_ 5 _ rfl; refine zB ?_; refine blk_put (cs := #[.int .i64 0, .bool false, .string (⟨#[]⟩ : ByteArray), .int .i64 t237, .int .i64 0, .string (⟨#[]⟩ : ByteArray)]) ?_ 4 _ rfl; refine zB ?_; refine blk_put (cs := #[.int .i64 0, .bool false, .string (⟨#[]⟩ : ByteArray), .int .i64 0, .int .i64 0, .string (⟨#[]⟩ : ByteArray)]) ?_ 3 _ rfl; refine zB ?_; refine blk_put (cs := #[.int .i64 0, .bool false, .string (⟨#[]⟩ : ByteArray), .int .i64 0, .int .i64 0, .string (⟨#[]⟩ : ByteArray)]) ?_ 2 _ rfl; refine zB ?_; refine blk_put (cs := #[.int .i64 0, .bool false, .string (⟨#[]⟩ : ByteArray), .int .i64 0, .int .i64 0, .string (⟨#[]⟩ : ByteArray)]) ?_ 1 _ rfl; refine zB ?_; refine blk_put (cs := #[.int .i64 0, .bool false, .string (⟨#[]⟩ : ByteArray), .int .i64 0, .int .i64 0, .string (⟨#[]⟩ : ByteArray)]) ?_ 0 _ rfl; refine zB ?_; exact BK229.out) Tryz.underlying69 rfl (by kernel_rfl)) rfl ?_
          exact ⟨by first | rfl | (simp [errW_none, errW_some] <;> rfl) | (simp [*, errW_none, errW_some] <;> rfl), by repeat first | with_reducible exact HB.out | refine zS ?_ | refine below_set ?_ GE228.out | refine below_set ?_ GE229.out | refine below_set ?_ GE236.out | exact HB.out⟩
      · rw [if_neg c12] at H
        have c12b0 : (a0_0 == 3) = false := beq_eq_false_iff_ne.mpr c12
        have c12b1 : (a0_0 != 3) = true := bne_iff_ne.mpr c12
        simp only [Option.some.injEq, Prod.mk.injEq] at H
        obtain ⟨rfl, rfl, rfl, rfl, rfl, rfl⟩ := H
        go_enter Tryz.func52, Tryz.ntmps52
        go_wp2_with (first | ((with_reducible refine gate_dst (N := 1) rfl ?_); refine box_event ?hg (N := 1) ?hd (cs := #[.int .i64 a0_0, .int .i64 a0_1, .string a0_2]) (t := 26) ?hr ?_; (case hd => rfl); (case hg => rfl); (case hr => first | (go_simp; done) | (go_simp; rfl)); intro gb228 hg w41 hbox hb; have n0_ := Aside0.mk (below_step (by repeat first | with_reducible exact HB.out | refine zS ?_ | exact HB.out) hb); have n1_ := Aside0.mk (hbox); have n2_ := Aside0.mk ((by rw [hg]; exact (below_size (by repeat first | with_reducible exact HB.out | refine zS ?_ | exact HB.out)) : w.heap.size ≤ gb228)); have n3_ := n2_; clear HB; have HB := n0_; have BK228 := n1_; have GW228 := n2_; have GE228 := n3_; clear n0_ n1_ n2_ n3_; clear hb hbox hg) | ((with_reducible refine gate_dst (N := 2) rfl ?_); refine box_event ?hg (N := 2) ?hd (cs := #[.int .i64 0, .bool false, .string (⟨#[]⟩ : ByteArray), .int .i64 0, .int .i64 0, .string (⟨#[]⟩ : ByteArray)]) (t := 69) ?hr ?_; (case hd => rfl); (case hg => rfl); (case hr => first | (go_simp; done) | (go_simp; rfl)); intro gb229 hg w42 hbox hb; have n0_ := Aside0.mk (blk_below (g := gb228) (o := .cells #[.int .i64 a0_0, .int .i64 a0_1, .string a0_2] 26 (0, 0)) (zB BK228.out) hb); have n1_ := Aside0.mk (below_step (by repeat first | with_reducible exact HB.out | refine zS ?_ | refine below_set ?_ GE228.out | exact HB.out) hb); have n2_ := Aside0.mk (hbox); have n3_ := Aside0.mk ((by rw [hg]; exact (below_size (by repeat first | with_reducible exact HB.out | refine zS ?_ | refine below_set ?_ GE228.out | exact HB.out)) : w.heap.size ≤ gb229)); have n4_ := n3_; have n5_ := Aside0.mk ((by rw [hg]; exact Nat.ne_of_lt (blk_lt (g := gb228) (o := .cells #[.int .i64 a0_0, .int .i64 a0_1, .string a0_2] 26 (0, 0)) (zB BK228.out)) : gb228 ≠ gb229)); have n6_ := Aside0.mk ((by rw [hg]; exact Nat.ne_of_gt (blk_lt (g := gb228) (o := .cells #[.int .i64 a0_0, .int .i64 a0_1, .string a0_2] 26 (0, 0)) (zB BK228.out)) : gb229 ≠ gb228)); clear BK228; clear HB; have BK228 := n0_; have HB := n1_; have BK229 := n2_; have GW229 := n3_; have GE229 := n4_; have NB228_229 := n5_; have NB229_228 := n6_; clear n0_ n1_ n2_ n3_ n4_ n5_ n6_; clear hb hbox hg; have hnb43 := NB228_229.out; have hnc43 := NB229_228.out; obtain ⟨hcz44_0, hcz44_1, hcz44_2, hfz44_0, hfz44_1, hfz44_2⟩ := zC3 BK228.out) | ((with_reducible refine gate_callee (f := 66) rfl ?_); refine goesL_ (some 5) rfl rfl Tryz.func66 (by kernel_rfl) rfl #[.agg #[.int .i64 a0_0, .int .i64 a0_1, .string a0_2]] rfl (by (try simp only [List.map_toArray, List.map_cons, List.map_nil]); first | done | rfl | (simp only [List.length_drop, List.length_take]; rfl)) ?_; (with_reducible refine (pannierref03_Good.calls a0_0 a0_1 a0_2 true _ A2.out).mono ?_); rintro e w45 ⟨rfl, hb⟩; refine ⟨_, rfl, ?_⟩; have n0_ := Aside0.mk (blk_below (g := gb228) (o := .cells #[.int .i64 a0_0, .int .i64 a0_1, .string a0_2] 26 (0, 0)) (zB BK228.out) hb); have n1_ := Aside0.mk (blk_below (g := gb229) (o := .cells #[.int .i64 0, .bool false, .string (⟨#[]⟩ : ByteArray), .int .i64 0, .int .i64 0, .string (⟨#[]⟩ : ByteArray)] 69 (0, 0)) (zB BK229.out) hb); have n2_ := Aside0.mk (below_step (by repeat first | with_reducible exact HB.out | refine zS ?_ | refine below_set ?_ GE228.out | refine below_set ?_ GE229.out | exact HB.out) hb); clear BK228; clear BK229; clear HB; have BK228 := n0_; have BK229 := n1_; have HB := n2_; clear n0_ n1_ n2_; (try clear hb); (try clear hb2); (try clear hk); (try clear hi); obtain ⟨hcz46_0, hcz46_1, hcz46_2, hfz46_0, hfz46_1, hfz46_2⟩ := zC3 BK228.out; obtain ⟨hcz47_0, hcz47_1, hcz47_2, hcz47_3, hcz47_4, hcz47_5, hfz47_0, hfz47_1, hfz47_2, hfz47_3, hfz47_4, hfz47_5⟩ := zC6 BK229.out))
        refine bodyPost_ret (results_cell_row rfl _ _ gb229 69 #[.int .i64 a0_1, .bool false, .string (⟨#[]⟩ : ByteArray), .int .i64 0, .int .i64 0, .string (⟨#[]⟩ : ByteArray)] (0, 0) _ rfl (by refine zB ?_; refine blk_put (cs := #[.int .i64 a0_1, .bool false, .string (⟨#[]⟩ : ByteArray), .int .i64 0, .int .i64 0, .string (⟨#[]⟩ : ByteArray)]) ?_ 5 _ rfl; refine zB ?_; refine blk_put (cs := #[.int .i64 a0_1, .bool false, .string (⟨#[]⟩ : ByteArray), .int .i64 0, .int .i64 0, .string (⟨#[]⟩ : ByteArray)]) ?_ 4 _ rfl; refine zB ?_; refine blk_put (cs := #[.int .i64 a0_1, .bool false, .string (⟨#[]⟩ : ByteArray), .int .i64 0, .int .i64 0, .string (⟨#[]⟩ : ByteArray)]) ?_ 3 _ rfl; refine zB ?_; refine blk_put (cs := #[.int .i64 a0_1, .bool false, .string (⟨#[]⟩ : ByteArray), .int .i64 0, .int .i64 0, .string (⟨#[]⟩ : ByteArray)]) ?_ 2 _ rfl; refine zB ?_; refine blk_put (cs := #[.int .i64 a0_1, .bool false, .string (⟨#[]⟩ : ByteArray), .int .i64 0, .int .i64 0, .string (⟨#[]⟩ : ByteArray)]) ?_ 1 _ rfl; refine zB ?_; refine blk_put (cs := #[.int .i64 0, .bool false, .string (⟨#[]⟩ : ByteArray), .int .i64 0, .int .i64 0, .string (⟨#[]⟩ : ByteArray)]) ?_ 0 _ rfl; refine zB ?_; exact BK229.out) Tryz.underlying69 rfl (by kernel_rfl)) rfl ?_
        exact ⟨by first | rfl | (simp [errW_none, errW_some] <;> rfl) | (simp [*, errW_none, errW_some] <;> rfl), by repeat first | with_reducible exact HB.out | refine zS ?_ | refine below_set ?_ GE228.out | refine below_set ?_ GE229.out | exact HB.out⟩
  · replace c3 := Bool.eq_false_iff.mpr c3
    subst c3
    have H1 : ((pannierref03_Fail.f 3).bind fun bt231 => (some (0, false, (⟨#[]⟩ : ByteArray), bt231.1, bt231.2.1, bt231.2.2))) = some (r1, r2, r3, r4, r5, r6) := by rw [if_neg (show ¬ (false = true) by decide)] at H; exact H
    clear H
    have H := H1
    clear H1
    replace H := Option.bind_eq_some_iff.mp H
    obtain ⟨⟨t231, t232, t233⟩, A480, H⟩ := H
    replace H : (some (0, false, (⟨#[]⟩ : ByteArray), t231, t232, t233)) = some (r1, r2, r3, r4, r5, r6) := H
    have A48 := Aside0.mk A480
    clear A480
    simp only [Option.some.injEq, Prod.mk.injEq] at H
    obtain ⟨rfl, rfl, rfl, rfl, rfl, rfl⟩ := H
    go_enter Tryz.func52, Tryz.ntmps52
    go_wp2_with (first | ((with_reducible refine gate_dst (N := 1) rfl ?_); refine box_event ?hg (N := 1) ?hd (cs := #[.int .i64 a0_0, .int .i64 a0_1, .string a0_2]) (t := 26) ?hr ?_; (case hd => rfl); (case hg => rfl); (case hr => first | (go_simp; done) | (go_simp; rfl)); intro gb228 hg w49 hbox hb; have n0_ := Aside0.mk (below_step (by repeat first | with_reducible exact HB.out | refine zS ?_ | exact HB.out) hb); have n1_ := Aside0.mk (hbox); have n2_ := Aside0.mk ((by rw [hg]; exact (below_size (by repeat first | with_reducible exact HB.out | refine zS ?_ | exact HB.out)) : w.heap.size ≤ gb228)); have n3_ := n2_; clear HB; have HB := n0_; have BK228 := n1_; have GW228 := n2_; have GE228 := n3_; clear n0_ n1_ n2_ n3_; clear hb hbox hg) | ((with_reducible refine gate_dst (N := 2) rfl ?_); refine box_event ?hg (N := 2) ?hd (cs := #[.int .i64 0, .bool false, .string (⟨#[]⟩ : ByteArray), .int .i64 0, .int .i64 0, .string (⟨#[]⟩ : ByteArray)]) (t := 69) ?hr ?_; (case hd => rfl); (case hg => rfl); (case hr => first | (go_simp; done) | (go_simp; rfl)); intro gb229 hg w50 hbox hb; have n0_ := Aside0.mk (blk_below (g := gb228) (o := .cells #[.int .i64 a0_0, .int .i64 a0_1, .string a0_2] 26 (0, 0)) (zB BK228.out) hb); have n1_ := Aside0.mk (below_step (by repeat first | with_reducible exact HB.out | refine zS ?_ | refine below_set ?_ GE228.out | exact HB.out) hb); have n2_ := Aside0.mk (hbox); have n3_ := Aside0.mk ((by rw [hg]; exact (below_size (by repeat first | with_reducible exact HB.out | refine zS ?_ | refine below_set ?_ GE228.out | exact HB.out)) : w.heap.size ≤ gb229)); have n4_ := n3_; have n5_ := Aside0.mk ((by rw [hg]; exact Nat.ne_of_lt (blk_lt (g := gb228) (o := .cells #[.int .i64 a0_0, .int .i64 a0_1, .string a0_2] 26 (0, 0)) (zB BK228.out)) : gb228 ≠ gb229)); have n6_ := Aside0.mk ((by rw [hg]; exact Nat.ne_of_gt (blk_lt (g := gb228) (o := .cells #[.int .i64 a0_0, .int .i64 a0_1, .string a0_2] 26 (0, 0)) (zB BK228.out)) : gb229 ≠ gb228)); clear BK228; clear HB; have BK228 := n0_; have HB := n1_; have BK229 := n2_; have GW229 := n3_; have GE229 := n4_; have NB228_229 := n5_; have NB229_228 := n6_; clear n0_ n1_ n2_ n3_ n4_ n5_ n6_; clear hb hbox hg; have hnb51 := NB228_229.out; have hnc51 := NB229_228.out; obtain ⟨hcz52_0, hcz52_1, hcz52_2, hfz52_0, hfz52_1, hfz52_2⟩ := zC3 BK228.out) | ((with_reducible refine gate_callee (f := 66) rfl ?_); refine goesL_ (some 5) rfl rfl Tryz.func66 (by kernel_rfl) rfl #[.agg #[.int .i64 a0_0, .int .i64 a0_1, .string a0_2]] rfl (by (try simp only [List.map_toArray, List.map_cons, List.map_nil]); first | done | rfl | (simp only [List.length_drop, List.length_take]; rfl)) ?_; (with_reducible refine (pannierref03_Good.calls a0_0 a0_1 a0_2 false _ A2.out).mono ?_); rintro e w53 ⟨rfl, hb⟩; refine ⟨_, rfl, ?_⟩; have n0_ := Aside0.mk (blk_below (g := gb228) (o := .cells #[.int .i64 a0_0, .int .i64 a0_1, .string a0_2] 26 (0, 0)) (zB BK228.out) hb); have n1_ := Aside0.mk (blk_below (g := gb229) (o := .cells #[.int .i64 0, .bool false, .string (⟨#[]⟩ : ByteArray), .int .i64 0, .int .i64 0, .string (⟨#[]⟩ : ByteArray)] 69 (0, 0)) (zB BK229.out) hb); have n2_ := Aside0.mk (below_step (by repeat first | with_reducible exact HB.out | refine zS ?_ | refine below_set ?_ GE228.out | refine below_set ?_ GE229.out | exact HB.out) hb); clear BK228; clear BK229; clear HB; have BK228 := n0_; have BK229 := n1_; have HB := n2_; clear n0_ n1_ n2_; (try clear hb); (try clear hb2); (try clear hk); (try clear hi)) | ((with_reducible refine gate_callee (f := 67) rfl ?_); refine goesL_ (some 7) rfl rfl Tryz.func67 (by kernel_rfl) rfl #[.int .i64 3] rfl (by (try simp only [List.map_toArray, List.map_cons, List.map_nil]); first | done | rfl | (simp only [List.length_drop, List.length_take]; rfl)) ?_; (with_reducible refine (pannierref03_Fail.calls 3 t231 t232 t233 _ A48.out).mono ?_); rintro e w54 ⟨rfl, hb⟩; refine ⟨_, rfl, ?_⟩; have n0_ := Aside0.mk (blk_below (g := gb228) (o := .cells #[.int .i64 a0_0, .int .i64 a0_1, .string a0_2] 26 (0, 0)) (zB BK228.out) hb); have n1_ := Aside0.mk (blk_below (g := gb229) (o := .cells #[.int .i64 0, .bool false, .string (⟨#[]⟩ : ByteArray), .int .i64 0, .int .i64 0, .string (⟨#[]⟩ : ByteArray)] 69 (0, 0)) (zB BK229.out) hb); have n2_ := Aside0.mk (below_step (by repeat first | with_reducible exact HB.out | refine zS ?_ | refine below_set ?_ GE228.out | refine below_set ?_ GE229.out | exact HB.out) hb); clear BK228; clear BK229; clear HB; have BK228 := n0_; have BK229 := n1_; have HB := n2_; clear n0_ n1_ n2_; (try clear hb); (try clear hb2); (try clear hk); (try clear hi); obtain ⟨hcz55_0, hcz55_1, hcz55_2, hcz55_3, hcz55_4, hcz55_5, hfz55_0, hfz55_1, hfz55_2, hfz55_3, hfz55_4, hfz55_5⟩ := zC6 BK229.out))
    refine bodyPost_ret (results_cell_row rfl _ _ gb229 69 #[.int .i64 0, .bool false, .string (⟨#[]⟩ : ByteArray), .int .i64 t231, .int .i64 t232, .string t233] (0, 0) _ rfl (by refine zB ?_; refine blk_put (cs := #[.int .i64 0, .bool false, .string (⟨#[]⟩ : ByteArray), .int .i64 t231, .int .i64 t232, .string (⟨#[]⟩ : ByteArray)]) ?_ 5 _ rfl; refine zB ?_; refine blk_put (cs := #[.int .i64 0, .bool false, .string (⟨#[]⟩ : ByteArray), .int .i64 t231, .int .i64 0, .string (⟨#[]⟩ : ByteArray)]) ?_ 4 _ rfl; refine zB ?_; refine blk_put (cs := #[.int .i64 0, .bool false, .string (⟨#[]⟩ : ByteArray), .int .i64 0, .int .i64 0, .string (⟨#[]⟩ : ByteArray)]) ?_ 3 _ rfl; refine zB ?_; refine blk_put (cs := #[.int .i64 0, .bool false, .string (⟨#[]⟩ : ByteArray), .int .i64 0, .int .i64 0, .string (⟨#[]⟩ : ByteArray)]) ?_ 2 _ rfl; refine zB ?_; refine blk_put (cs := #[.int .i64 0, .bool false, .string (⟨#[]⟩ : ByteArray), .int .i64 0, .int .i64 0, .string (⟨#[]⟩ : ByteArray)]) ?_ 1 _ rfl; refine zB ?_; refine blk_put (cs := #[.int .i64 0, .bool false, .string (⟨#[]⟩ : ByteArray), .int .i64 0, .int .i64 0, .string (⟨#[]⟩ : ByteArray)]) ?_ 0 _ rfl; refine zB ?_; exact BK229.out) Tryz.underlying69 rfl (by kernel_rfl)) rfl ?_
    exact ⟨by first | rfl | (simp [errW_none, errW_some] <;> rfl) | (simp [*, errW_none, errW_some] <;> rfl), by repeat first | with_reducible exact HB.out | refine zS ?_ | refine below_set ?_ GE228.out | refine below_set ?_ GE229.out | exact HB.out⟩
end Go.Proofs.YtmdmpafdpgdpoaaGreatDoor.P

namespace Go.Proofs.YtmdmpafdpgdpoaaGreatDoor.P
open Go.RowKit Go.Proofs.YtmdmpafdpgdpoaaGreatDoorW.PrintWords Go.Proofs.YtmdmpafdpgdpoaaGreatDoorW.PrintLast Go.Proofs.YtmdmpafdpgdpoaaGreatDoorW.PrintMore
attribute [local go_sem] max2_int min2_int max_two min_two max_three min_three max_four min_four   -- for this text's walks alone
set_option linter.unusedVariables false
set_option linter.unusedSimpArgs false
def pannierref01_Got_or.f (a0_0 : Int) (a0_1 : Bool) (a1 : Bool) : Option (Int × Bool) := if a1 = true then (some (0, false)) else (some (a0_0, a0_1))
set_option maxHeartbeats 8000000 in
set_option maxRecDepth 100000 in
theorem pannierref01_Got_or.calls (a0_0 : Int) (a0_1 : Bool) (a1 : Bool) (r1 : Int) (r2 : Bool) (w : World) (h : pannierref01_Got_or.f a0_0 a0_1 a1 = some (r1, r2)) :
    Calls Tryz.prog 71 #[.agg #[.int .i64 a0_0, .bool a0_1], .bool a1] w fun e w' => e = .returned (.agg #[.int .i64 r1, .bool r2]) ∧ Below w.heap.size w w' := by
  have hu72 := Tryz.underlying72
  have HB := Aside0.mk (Below.refl w.heap.size w)
  have H : (if a1 = true then (some (0, false)) else (some (a0_0, a0_1))) = some (r1, r2) := h
  clear h
  by_cases c3 : a1 = true
  · subst c3
    have H1 : (some (0, false)) = some (r1, r2) := by rw [if_pos rfl] at H; exact H
    clear H
    have H := H1
    clear H1
    simp only [Option.some.injEq, Prod.mk.injEq] at H
    obtain ⟨rfl, rfl⟩ := H
    go_enter Tryz.func71, Tryz.ntmps71
    go_wp2_with (first | ((with_reducible refine gate_dst (N := 2) rfl ?_); refine box_event ?hg (N := 2) ?hd (cs := #[.int .i64 a0_0, .bool a0_1]) (t := 72) ?hr ?_; (case hd => rfl); (case hg => rfl); (case hr => first | (go_simp; done) | (go_simp; rfl)); intro gb240 hg w4 hbox hb; have n0_ := Aside0.mk (below_step (by repeat first | with_reducible exact HB.out | refine zS ?_ | exact HB.out) hb); have n1_ := Aside0.mk (hbox); have n2_ := Aside0.mk ((by rw [hg]; exact (below_size (by repeat first | with_reducible exact HB.out | refine zS ?_ | exact HB.out)) : w.heap.size ≤ gb240)); have n3_ := n2_; clear HB; have HB := n0_; have BK240 := n1_; have GW240 := n2_; have GE240 := n3_; clear n0_ n1_ n2_ n3_; clear hb hbox hg) | ((with_reducible refine gate_dst (N := 4) rfl ?_); refine box_event ?hg (N := 4) ?hd (cs := #[.int .i64 0, .bool false]) (t := 72) ?hr ?_; (case hd => rfl); (case hg => rfl); (case hr => first | (go_simp; done) | (go_simp; rfl)); intro gb241 hg w5 hbox hb; have n0_ := Aside0.mk (blk_below (g := gb240) (o := .cells #[.int .i64 a0_0, .bool a0_1] 72 (0, 0)) (zB BK240.out) hb); have n1_ := Aside0.mk (below_step (by repeat first | with_reducible exact HB.out | refine zS ?_ | refine below_set ?_ GE240.out | exact HB.out) hb); have n2_ := Aside0.mk (hbox); have n3_ := Aside0.mk ((by rw [hg]; exact (below_size (by repeat first | with_reducible exact HB.out | refine zS ?_ | refine below_set ?_ GE240.out | exact HB.out)) : w.heap.size ≤ gb241)); have n4_ := n3_; have n5_ := Aside0.mk ((by rw [hg]; exact Nat.ne_of_lt (blk_lt (g := gb240) (o := .cells #[.int .i64 a0_0, .bool a0_1] 72 (0, 0)) (zB BK240.out)) : gb240 ≠ gb241)); have n6_ := Aside0.mk ((by rw [hg]; exact Nat.ne_of_gt (blk_lt (g := gb240) (o := .cells #[.int .i64 a0_0, .bool a0_1] 72 (0, 0)) (zB BK240.out)) : gb241 ≠ gb240)); clear BK240; clear HB; have BK240 := n0_; have HB := n1_; have BK241 := n2_; have GW241 := n3_; have GE241 := n4_; have NB240_241 := n5_; have NB241_240 := n6_; clear n0_ n1_ n2_ n3_ n4_ n5_ n6_; clear hb hbox hg; have hnb6 := NB241_240.out; have hnc6 := NB240_241.out; obtain ⟨hcz7_0, hcz7_1, hfz7_0, hfz7_1⟩ := zC2 BK241.out))
    refine bodyPost_ret (results_cell_row rfl _ _ gb241 72 #[.int .i64 0, .bool false] (0, 0) _ rfl (by refine zB ?_; refine blk_put (cs := #[.int .i64 0, .bool false]) ?_ 1 _ rfl; refine zB ?_; refine blk_put (cs := #[.int .i64 0, .bool false]) ?_ 0 _ rfl; refine zB ?_; exact BK241.out) Tryz.underlying72 rfl (by kernel_rfl)) rfl ?_
    exact ⟨by first | rfl | (simp [errW_none, errW_some] <;> rfl) | (simp [*, errW_none, errW_some] <;> rfl), by repeat first | with_reducible exact HB.out | refine zS ?_ | refine below_set ?_ GE240.out | refine below_set ?_ GE241.out | exact HB.out⟩
  · replace c3 := Bool.eq_false_iff.mpr c3
    subst c3
    have H1 : (some (a0_0, a0_1)) = some (r1, r2) := by rw [if_neg (show ¬ (false = true) by decide)] at H; exact H
    clear H
    have H := H1
    clear H1
    simp only [Option.some.injEq, Prod.mk.injEq] at H
    obtain ⟨rfl, rfl⟩ := H
    go_enter Tryz.func71, Tryz.ntmps71
    go_wp2_with (first | ((with_reducible refine gate_dst (N := 2) rfl ?_); refine box_event ?hg (N := 2) ?hd (cs := #[.int .i64 a0_0, .bool a0_1]) (t := 72) ?hr ?_; (case hd => rfl); (case hg => rfl); (case hr => first | (go_simp; done) | (go_simp; rfl)); intro gb240 hg w8 hbox hb; have n0_ := Aside0.mk (below_step (by repeat first | with_reducible exact HB.out | refine zS ?_ | exact HB.out) hb); have n1_ := Aside0.mk (hbox); have n2_ := Aside0.mk ((by rw [hg]; exact (below_size (by repeat first | with_reducible exact HB.out | refine zS ?_ | exact HB.out)) : w.heap.size ≤ gb240)); have n3_ := n2_; clear HB; have HB := n0_; have BK240 := n1_; have GW240 := n2_; have GE240 := n3_; clear n0_ n1_ n2_ n3_; clear hb hbox hg) | ((with_reducible refine gate_dst (N := 4) rfl ?_); refine box_event ?hg (N := 4) ?hd (cs := #[.int .i64 0, .bool false]) (t := 72) ?hr ?_; (case hd => rfl); (case hg => rfl); (case hr => first | (go_simp; done) | (go_simp; rfl)); intro gb241 hg w9 hbox hb; have n0_ := Aside0.mk (blk_below (g := gb240) (o := .cells #[.int .i64 a0_0, .bool a0_1] 72 (0, 0)) (zB BK240.out) hb); have n1_ := Aside0.mk (below_step (by repeat first | with_reducible exact HB.out | refine zS ?_ | refine below_set ?_ GE240.out | exact HB.out) hb); have n2_ := Aside0.mk (hbox); have n3_ := Aside0.mk ((by rw [hg]; exact (below_size (by repeat first | with_reducible exact HB.out | refine zS ?_ | refine below_set ?_ GE240.out | exact HB.out)) : w.heap.size ≤ gb241)); have n4_ := n3_; have n5_ := Aside0.mk ((by rw [hg]; exact Nat.ne_of_lt (blk_lt (g := gb240) (o := .cells #[.int .i64 a0_0, .bool a0_1] 72 (0, 0)) (zB BK240.out)) : gb240 ≠ gb241)); have n6_ := Aside0.mk ((by rw [hg]; exact Nat.ne_of_gt (blk_lt (g := gb240) (o := .cells #[.int .i64 a0_0, .bool a0_1] 72 (0, 0)) (zB BK240.out)) : gb241 ≠ gb240)); clear BK240; clear HB; have BK240 := n0_; have HB := n1_; have BK241 := n2_; have GW241 := n3_; have GE241 := n4_; have NB240_241 := n5_; have NB241_240 := n6_; clear n0_ n1_ n2_ n3_ n4_ n5_ n6_; clear hb hbox hg; have hnb10 := NB240_241.out; have hnc10 := NB241_240.out; obtain ⟨hcz11_0, hcz11_1, hfz11_0, hfz11_1⟩ := zC2 BK240.out; obtain ⟨hcz12_0, hcz12_1, hfz12_0, hfz12_1⟩ := zC2 BK241.out))
    refine bodyPost_ret (results_cell_row rfl _ _ gb241 72 #[.int .i64 a0_0, .bool a0_1] (0, 0) _ rfl (by refine zB ?_; refine blk_put (cs := #[.int .i64 a0_0, .bool false]) ?_ 1 _ rfl; refine zB ?_; refine blk_put (cs := #[.int .i64 0, .bool false]) ?_ 0 _ rfl; refine zB ?_; exact BK241.out) Tryz.underlying72 rfl (by kernel_rfl)) rfl ?_
    exact ⟨by first | rfl | (simp [errW_none, errW_some] <;> rfl) | (simp [*, errW_none, errW_some] <;> rfl), by repeat first | with_reducible exact HB.out | refine zS ?_ | refine below_set ?_ GE240.out | refine below_set ?_ GE241.out | exact HB.out⟩
end Go.Proofs.YtmdmpafdpgdpoaaGreatDoor.P
