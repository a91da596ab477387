/- Contracts of the functions that the law reaches, each with the plain function that it comes to, and plain facts about these. -/
import Derived.LoopTactic
import Derived.Outline
import Derived.WalkKit
import Derived.LaidEql
import Derived.Stop.Asserts
import Derived.RowKitTokens
import Derived.Lib.ConvBytes
import Derived.Laws.BytesArg
import Derived.WalkSmall
import Derived.Test.YtnomfbmebafolaaGreatDoorBK2
import Derived.Test.YtnomfbmebafolaaGreatDoorBK3
namespace Go.Proofs.YtnomfbmebafolaaGreatDoor.P
open Go.RowKit Go.Proofs.YtnomfbmebafolaaGreatDoorW.PrintWords Go.Proofs.YtnomfbmebafolaaGreatDoorW.PrintLast Go.Proofs.YtnomfbmebafolaaGreatDoorW.PrintMore
open M (I64)
set_option linter.unusedVariables false
set_option linter.unusedSimpArgs false
abbrev put2 (W : World) (g : Nat) (u0 u1 : Value) : World := (W.setCell ⟨g, 0, none⟩ u0).setCell ⟨g, 1, none⟩ u1
theorem put2_blk {W : World} {g : Nat} {t : TypeId} {v0 v1 : Value} (h : W.heap[g]? = some (.cells #[v0, v1] t (0, 0))) (u0 u1 : Value) : (put2 W g u0 u1).heap[g]? = some (.cells #[u0, u1] t (0, 0)) := by
  have h0 : (W.setCell ⟨g, 0, none⟩ u0).heap[g]? = some (.cells #[u0, v1] t (0, 0)) := blk_put h 0 u0 rfl
  have h1 : ((W.setCell ⟨g, 0, none⟩ u0).setCell ⟨g, 1, none⟩ u1).heap[g]? = some (.cells #[u0, u1] t (0, 0)) := blk_put h0 1 u1 rfl
  exact h1
theorem put2_old {W : World} {g k : Nat} (hk : k ≠ g) (u0 u1 : Value) : (put2 W g u0 u1).heap[k]? = W.heap[k]? := by
  have one : ∀ (V : World) (j : Nat) (u : Value), (V.setCell ⟨g, j, none⟩ u).heap[k]? = V.heap[k]? := fun V j u => Below.heap_setCell V ⟨g, j, none⟩ u k hk
  unfold put2
  rw [one, one]
theorem put2_bu {g gr : Nat} {W0 W : World} (h : Bu g W0 W) (hr : W0.heap.size ≤ gr) (u0 u1 : Value) : Bu g W0 (put2 W gr u0 u1) := by
  have one : ∀ (V : World) (j : Nat) (u : Value), Bu g W0 V → Bu g W0 (V.setCell ⟨gr, j, none⟩ u) := fun V j u hV =>
    ⟨hV.os, hV.tape, hV.output, by simpa [World.setCell] using hV.size, fun k hk hg => (Below.heap_setCell V ⟨gr, j, none⟩ u k (by show k ≠ gr; omega)).trans (hV.block k hk hg)⟩
  exact one _ 1 u1 (one _ 0 u0 h)
theorem put2_ps {g gr : Nat} {toks : List Tok} {en at_ : Int} {W : World} (h : PS g toks en at_ W) (hr : g < gr) (u0 u1 : Value) : PS g toks en at_ (put2 W gr u0 u1) := by
  obtain ⟨A, c, h1, h2, gw, h3, h4, h5⟩ := h
  exact ⟨A, c, (put2_old (by omega) ..).trans h1, Kd.F_step h2 (fun k hk _ => put2_old (by omega) ..), gw, h3, Below.of_bu (g := g) (put2_bu (g := g) (Bu.of_below h4) (by omega) ..) h5, h5⟩
theorem lo2 {g q : Nat} {o : Obj} {W X : World} (h : Bu g (W.alloc o) X) (hq : X.heap.size ≤ q) : W.heap.size < q := by
  have h1 := h.size
  have h2 : (W.alloc o).heap.size = W.heap.size + 1 := by simp
  omega
theorem Uq18 {p q : Prop} (h0 : p) (h : p → q := by intro h_; with_reducible repeat (first | exact h_ | refine PS.alloc ?_ _ | refine PS.drewN ?_ _ | refine PS.drew ?_ | refine PS.put (at_ := (n : Int)) ?_ _ | refine put2_ps ?_ HG.out _ _)) : q := h h0
theorem Uq19 {p q : Prop} (h0 : p) (h : p → q := by intro h_; with_reducible repeat (first | exact h_ | exact Bu.refl _ _ | refine Bu.to_alloc ?_ _ | refine Bu.to_drewN ?_ _ | refine Bu.to_drew ?_ | refine Bu.to_set ?_ _ _ | refine put2_bu ?_ (Nat.le_refl _) _ _)) : q := h h0
theorem Uq20 {p q : Prop} (h0 : p) (h : p → q := by intro h_; with_reducible repeat (first | exact put2_blk h_ _ _ | refine blk_alloc ?_ _)) : q := h h0
theorem Uq21 {p q : Prop} (h0 : p) (h : p → q := by intro h_; with_reducible repeat (first | exact h_ | refine blk_alloc ?_ _ | refine (put2_old (Nat.ne_of_gt HQ.out) _ _).trans ?_)) : q := h h0
theorem Uq22 {p q : Prop} (h0 : p) (h : p → q := by intro h_; with_reducible repeat (first | exact (Bu.alloc g W (adO 0 0)).trans h_ | refine Bu.to_alloc ?_ _ | refine Bu.to_drewN ?_ _ | refine Bu.to_drew ?_ | refine Bu.to_set ?_ _ _ | refine put2_bu ?_ (Nat.le_refl _) _ _)) : q := h h0
set_option maxHeartbeats 1600000 in
set_option maxRecDepth 100000 in
theorem cell_end (toks : List Tok) (en : Int) (n : Nat) (hlen : toks.length ≤ 1000000) (hn : n = toks.length) : CellBad toks en n (placeV toks en n) 13 n := by
  intro g W hp
  have hu := Tryz.underlying26
  have HG := Lib.hid hp.lt
  have HP0 := Lib.hid (hp.alloc (adO 0 0))
  have HB0 := Lib.hid (Bu.refl g (W.alloc (adO 0 0)))
  have BK0 := Lib.hid (blk_new W (adO 0 0))
  have HPW := Lib.hid hp
  have hg1 : (g = W.heap.size) = False := eq_false (Nat.ne_of_lt HG.out)
  have hg2 : (W.heap.size = g) = False := eq_false (Nat.ne_of_gt HG.out)
  have hg3 : g < W.heap.size := HG.out
  obtain ⟨At, ct, c0, c1, c2, z1, hbb, hF⟩ := hp.cells
  have hq : decide ((n : Int) < (toks.length : Int)) = false := decide_eq_false (by omega)
  have hq0 : decide (n < toks.length) = false := decide_eq_false (by omega)
  have hq00 : (n < toks.length) = False := eq_false (by omega)
  have HN := Lib.hid (Nat.le_of_eq hn)
  clear hp hbb hF hn hlen
  go_enter Tryz.func138, Tryz.ntmps138
  go_wp2
  repeat (go_quiet (fail); try go_wp2_with (first | (go_at_call 52; (with_reducible refine (fail_calls g toks en n HN.out _ ?sp).mono ?_); (case sp => exact (Uq18 HP0.out)); rintro e w1 ⟨q, rfl, he, hq, hbl⟩; have HE := Lib.hid he; have HQ := Lib.hid (lo2 (g := g) (o := adO 0 0) (W := W) (Uq19 HB0.out) hq); have hb := Bu.of_below (g := g) hbl; have hp := PS.below (g := g) (toks := toks) (en := en) (at_ := (n : Int)) (Uq18 HP0.out) hbl; clear he hq hbl; have HP1 := Lib.hid hp; have HB1 := Lib.hid (Bu.trans (g := g) (a := W.alloc (adO 0 0)) (Uq19 HB0.out) hb); have BK1 := Lib.hid (hb.blk (k := W.heap.size) (o := adO 0 0) (Uq15 BK0.out) (Nat.ne_of_gt HG.out)); clear hp hb; obtain ⟨⟨f0, f1⟩, y0, y1⟩ := zz2 BK1.out; have hsz : W.heap.size < w1.heap.size := blk_lt BK1.out)))
  refine bodyPost_ret (results_ct rfl _ _ W.heap.size 26 _ (0, 0) _ rfl (Uq20 BK1.out) hu rfl (by kernel_rfl)) rfl ?_
  refine ⟨q, ?_, ?_, Nat.le_of_lt HQ.out, ?_, ?_⟩
  · rfl
  · exact (Uq21 HE.out)
  · exact (Uq18 HP1.out)
  · exact (Uq22 HB1.out)
set_option maxHeartbeats 1600000 in
set_option maxRecDepth 100000 in
theorem cell_kind (toks : List Tok) (en : Int) (n : Nat) (hlen : toks.length ≤ 1000000) (tk : Tok) (ht : toks[n]? = some tk) (hk : tk.f0 ≠ 3) : CellBad toks en n (placeV toks en n) 13 n := by
  intro g W hp
  have hu := Tryz.underlying26
  have HG := Lib.hid hp.lt
  have HP0 := Lib.hid (hp.alloc (adO 0 0))
  have HB0 := Lib.hid (Bu.refl g (W.alloc (adO 0 0)))
  have BK0 := Lib.hid (blk_new W (adO 0 0))
  have HPW := Lib.hid hp
  have hg1 : (g = W.heap.size) = False := eq_false (Nat.ne_of_lt HG.out)
  have hg2 : (W.heap.size = g) = False := eq_false (Nat.ne_of_gt HG.out)
  have hg3 : g < W.heap.size := HG.out
  obtain ⟨At, ct, c0, c1, c2, z1, hbb, hF⟩ := hp.cells
  obtain ⟨hn, ad, rfl, t0, t1, t2, t3⟩ := PS.tok' hF n tk ht
  have hq : decide ((n : Int) < (toks.length : Int)) = true := decide_eq_true (by omega)
  have hq0 : decide (n < toks.length) = true := decide_eq_true (by omega)
  have hq00 : (n < toks.length) = True := eq_true (by omega)
  have hq1 : ((0 : Int) ≤ (n : Int)) = True := eq_true (by omega)
  have hq2 : ((n : Int) < (toks.length : Int)) = True := eq_true (by omega)
  have w1 : IntKind.i64.wrap ((n : Int) + 1) = (n : Int) + 1 := by rw [i64_w, M.wrap64_id (by unfold I64; omega)]
  have hlt : (ad.add (n * 4)).block < W.heap.size := World.block_lt_of_cell? _ _ t0
  have HN := Lib.hid (Nat.le_of_lt hn)
  have HLEN := Lib.hid hlen
  have hk3 : (tk.f0 == 3) = false := beq_eq_false_iff_ne.2 hk
  clear hk
  clear hp hbb hF ht hn hlen
  go_enter Tryz.func138, Tryz.ntmps138
  go_wp2
  repeat (go_quiet (fail); try go_wp2_with (first | (go_at_call 52; (with_reducible refine (fail_calls g toks en n HN.out _ ?sp).mono ?_); (case sp => exact (Uq18 HP0.out)); rintro e w1 ⟨q, rfl, he, hq, hbl⟩; have HE := Lib.hid he; have HQ := Lib.hid (lo2 (g := g) (o := adO 0 0) (W := W) (Uq19 HB0.out) hq); have hb := Bu.of_below (g := g) hbl; have hp := PS.below (g := g) (toks := toks) (en := en) (at_ := (n : Int)) (Uq18 HP0.out) hbl; clear he hq hbl; have HP1 := Lib.hid hp; have HB1 := Lib.hid (Bu.trans (g := g) (a := W.alloc (adO 0 0)) (Uq19 HB0.out) hb); have BK1 := Lib.hid (hb.blk (k := W.heap.size) (o := adO 0 0) (Uq15 BK0.out) (Nat.ne_of_gt HG.out)); clear hp hb; obtain ⟨⟨f0, f1⟩, y0, y1⟩ := zz2 BK1.out; have hsz : W.heap.size < w1.heap.size := blk_lt BK1.out)))
  refine bodyPost_ret (results_ct rfl _ _ W.heap.size 26 _ (0, 0) _ rfl (Uq20 BK1.out) hu rfl (by kernel_rfl)) rfl ?_
  refine ⟨q, ?_, ?_, Nat.le_of_lt HQ.out, ?_, ?_⟩
  · rfl
  · exact (Uq21 HE.out)
  · exact (Uq18 HP1.out)
  · exact (Uq22 HB1.out)
set_option maxHeartbeats 1600000 in
set_option maxRecDepth 100000 in
theorem cell_opens (toks : List Tok) (en : Int) (n : Nat) (hlen : toks.length ≤ 1000000) (tk : Tok) (ht : toks[n]? = some tk) (hk : tk.f0 = 3) (ho : opensV toks n = true) : CellBad toks en n (placeV toks en n) 13 n := by
  intro g W hp
  have hu := Tryz.underlying26
  have HG := Lib.hid hp.lt
  have HP0 := Lib.hid (hp.alloc (adO 0 0))
  have HB0 := Lib.hid (Bu.refl g (W.alloc (adO 0 0)))
  have BK0 := Lib.hid (blk_new W (adO 0 0))
  have HPW := Lib.hid hp
  have hg1 : (g = W.heap.size) = False := eq_false (Nat.ne_of_lt HG.out)
  have hg2 : (W.heap.size = g) = False := eq_false (Nat.ne_of_gt HG.out)
  have hg3 : g < W.heap.size := HG.out
  obtain ⟨At, ct, c0, c1, c2, z1, hbb, hF⟩ := hp.cells
  obtain ⟨hn, ad, rfl, t0, t1, t2, t3⟩ := PS.tok' hF n tk ht
  have hq : decide ((n : Int) < (toks.length : Int)) = true := decide_eq_true (by omega)
  have hq0 : decide (n < toks.length) = true := decide_eq_true (by omega)
  have hq00 : (n < toks.length) = True := eq_true (by omega)
  have hq1 : ((0 : Int) ≤ (n : Int)) = True := eq_true (by omega)
  have hq2 : ((n : Int) < (toks.length : Int)) = True := eq_true (by omega)
  have w1 : IntKind.i64.wrap ((n : Int) + 1) = (n : Int) + 1 := by rw [i64_w, M.wrap64_id (by unfold I64; omega)]
  have hlt : (ad.add (n * 4)).block < W.heap.size := World.block_lt_of_cell? _ _ t0
  have HN := Lib.hid (Nat.le_of_lt hn)
  have HLEN := Lib.hid hlen
  have hk3 : (tk.f0 == 3) = true := by rw [hk]; rfl
  have HO := Lib.hid ho
  clear hk ho
  clear hp hbb hF ht hn hlen
  go_enter Tryz.func138, Tryz.ntmps138
  go_wp2
  repeat (go_quiet (((go_at_call 136; (with_reducible refine (opens_quiet g toks en n HN.out HLEN.out _ ?sp).mono ?_); (case sp => exact (Uq18 HP0.out)); rintro e w' ⟨rfl, nd, rfl⟩; rw [HO.out]; (try first | exact ⟨rfl, _, World.drewN_drewN _ _ _⟩ | exact ⟨rfl, _, Eq.trans (World.drewN_drewN _ _ _) (congrArg (World.drewN _) (Nat.add_assoc _ _ _))⟩)))); try go_wp2_with (first | (go_at_call 52; (with_reducible refine (fail_calls g toks en n HN.out _ ?sp).mono ?_); (case sp => exact (Uq18 HP0.out)); rintro e w1 ⟨q, rfl, he, hq, hbl⟩; have HE := Lib.hid he; have HQ := Lib.hid (lo2 (g := g) (o := adO 0 0) (W := W) (Uq19 HB0.out) hq); have hb := Bu.of_below (g := g) hbl; have hp := PS.below (g := g) (toks := toks) (en := en) (at_ := (n : Int)) (Uq18 HP0.out) hbl; clear he hq hbl; have HP1 := Lib.hid hp; have HB1 := Lib.hid (Bu.trans (g := g) (a := W.alloc (adO 0 0)) (Uq19 HB0.out) hb); have BK1 := Lib.hid (hb.blk (k := W.heap.size) (o := adO 0 0) (Uq15 BK0.out) (Nat.ne_of_gt HG.out)); clear hp hb; obtain ⟨⟨f0, f1⟩, y0, y1⟩ := zz2 BK1.out; have hsz : W.heap.size < w1.heap.size := blk_lt BK1.out)))
  refine bodyPost_ret (results_ct rfl _ _ W.heap.size 26 _ (0, 0) _ rfl (Uq20 BK1.out) hu rfl (by kernel_rfl)) rfl ?_
  refine ⟨q, ?_, ?_, Nat.le_of_lt HQ.out, ?_, ?_⟩
  · rfl
  · exact (Uq21 HE.out)
  · exact (Uq18 HP1.out)
  · exact (Uq22 HB1.out)
theorem cell_of {B : Nat} {W0 W1 : World} {p : Addr} {v : Value} (hb : Below B W0 W1) (hp : p.block < B) (h : W0.cell? p = some v) : W1.cell? p = some v := (Below.cell hb hp).trans h
theorem s_below {X W' : World} {p0 p1 p2 : Addr} {v0 v1 v2 : Value} (hb : Below X.heap.size X W') (h : X.cell? p0 = some v0 ∧ X.cell? p1 = some v1 ∧ X.cell? p2 = some v2) : W'.cell? p0 = some v0 ∧ W'.cell? p1 = some v1 ∧ W'.cell? p2 = some v2 :=
  ⟨cell_of hb (World.block_lt_of_cell? _ _ h.1) h.1, cell_of hb (World.block_lt_of_cell? _ _ h.2.1) h.2.1, cell_of hb (World.block_lt_of_cell? _ _ h.2.2) h.2.2⟩
theorem s_alloc {X : World} {p0 p1 p2 : Addr} {v0 v1 v2 : Value} (o : Obj) (h : X.cell? p0 = some v0 ∧ X.cell? p1 = some v1 ∧ X.cell? p2 = some v2) : (X.alloc o).cell? p0 = some v0 ∧ (X.alloc o).cell? p1 = some v1 ∧ (X.alloc o).cell? p2 = some v2 := s_below (below_alloc (Below.refl _ _) o) h
theorem s_drew {X : World} {p0 p1 p2 : Addr} {v0 v1 v2 : Value} (h : X.cell? p0 = some v0 ∧ X.cell? p1 = some v1 ∧ X.cell? p2 = some v2) : X.drew.cell? p0 = some v0 ∧ X.drew.cell? p1 = some v1 ∧ X.drew.cell? p2 = some v2 := h
theorem s_drewN {X : World} {p0 p1 p2 : Addr} {v0 v1 v2 : Value} (m : Nat) (h : X.cell? p0 = some v0 ∧ X.cell? p1 = some v1 ∧ X.cell? p2 = some v2) : (X.drewN m).cell? p0 = some v0 ∧ (X.drewN m).cell? p1 = some v1 ∧ (X.drewN m).cell? p2 = some v2 := h
theorem s_put2 {X : World} {q : Nat} {p0 p1 p2 : Addr} {v0 v1 v2 : Value} (h : X.cell? p0 = some v0 ∧ X.cell? p1 = some v1 ∧ X.cell? p2 = some v2) (h0 : p0.block < q) (h1 : p1.block < q) (h2 : p2.block < q) (u0 u1 : Value) : (put2 X q u0 u1).cell? p0 = some v0 ∧ (put2 X q u0 u1).cell? p1 = some v1 ∧ (put2 X q u0 u1).cell? p2 = some v2 :=
  ⟨(World.cell?_of_block (put2_old (Nat.ne_of_lt h0) u0 u1)).trans h.1, (World.cell?_of_block (put2_old (Nat.ne_of_lt h1) u0 u1)).trans h.2.1, (World.cell?_of_block (put2_old (Nat.ne_of_lt h2) u0 u1)).trans h.2.2⟩
set_option maxHeartbeats 1600000 in
set_option maxRecDepth 100000 in
theorem cell_ok (toks : List Tok) (en : Int) (n : Nat) (hlen : toks.length ≤ 1000000) (tk : Tok) (ht : toks[n]? = some tk) (hk : tk.f0 = 3) (ho : opensV toks n = false) (r c : Int) (hf : addr_Parse.f tk.f2 = some (r, c, true)) : CellOk toks en n r c (n + 1) := by
  intro g W hp
  have hu := Tryz.underlying26
  have HG := Lib.hid hp.lt
  have HP0 := Lib.hid (hp.alloc (adO 0 0))
  have HB0 := Lib.hid (Bu.refl g (W.alloc (adO 0 0)))
  have BK0 := Lib.hid (blk_new W (adO 0 0))
  have HPW := Lib.hid hp
  have hg1 : (g = W.heap.size) = False := eq_false (Nat.ne_of_lt HG.out)
  have hg2 : (W.heap.size = g) = False := eq_false (Nat.ne_of_gt HG.out)
  have hg3 : g < W.heap.size := HG.out
  obtain ⟨At, ct, c0, c1, c2, z1, hbb, hF⟩ := hp.cells
  obtain ⟨hn, ad, rfl, t0, t1, t2, t3⟩ := PS.tok' hF n tk ht
  have hq : decide ((n : Int) < (toks.length : Int)) = true := decide_eq_true (by omega)
  have hq0 : decide (n < toks.length) = true := decide_eq_true (by omega)
  have hq00 : (n < toks.length) = True := eq_true (by omega)
  have hq1 : ((0 : Int) ≤ (n : Int)) = True := eq_true (by omega)
  have hq2 : ((n : Int) < (toks.length : Int)) = True := eq_true (by omega)
  have w1 : IntKind.i64.wrap ((n : Int) + 1) = (n : Int) + 1 := by rw [i64_w, M.wrap64_id (by unfold I64; omega)]
  have hlt : (ad.add (n * 4)).block < W.heap.size := World.block_lt_of_cell? _ _ t0
  have HN := Lib.hid (Nat.le_of_lt hn)
  have HLEN := Lib.hid hlen
  have hk3 : (tk.f0 == 3) = true := by rw [hk]; rfl
  have HO := Lib.hid ho
  clear hk ho
  have HFP := Lib.hid hf
  clear hf
  have KK := Lib.hid (And.intro c0 (And.intro c1 t2))
  clear hp hbb hF ht hn hlen
  go_enter Tryz.func138, Tryz.ntmps138
  go_wp2
  repeat (go_quiet (((go_at_call 136; (with_reducible refine (opens_quiet g toks en n HN.out HLEN.out _ ?sp).mono ?_); (case sp => exact (Uq18 HP0.out)); rintro e w' ⟨rfl, nd, rfl⟩; rw [HO.out]; (try first | exact ⟨rfl, _, World.drewN_drewN _ _ _⟩ | exact ⟨rfl, _, Eq.trans (World.drewN_drewN _ _ _) (congrArg (World.drewN _) (Nat.add_assoc _ _ _))⟩)))); try go_wp2_with (first | (go_at_call 52; (with_reducible refine (fail_calls g toks en n HN.out _ ?sp).mono ?_); (case sp => exact (Uq18 HP0.out)); rintro e w1 ⟨q, rfl, he, hq, hbl⟩; have HE := Lib.hid he; have HQ := Lib.hid (lo2 (g := g) (o := adO 0 0) (W := W) (Uq19 HB0.out) hq); have hb := Bu.of_below (g := g) hbl; have hp := PS.below (g := g) (toks := toks) (en := en) (at_ := (n : Int)) (Uq18 HP0.out) hbl; clear he hq hbl; have HP1 := Lib.hid hp; have HB1 := Lib.hid (Bu.trans (g := g) (a := W.alloc (adO 0 0)) (Uq19 HB0.out) hb); have BK1 := Lib.hid (hb.blk (k := W.heap.size) (o := adO 0 0) (Uq15 BK0.out) (Nat.ne_of_gt HG.out)); clear hp hb; obtain ⟨⟨f0, f1⟩, y0, y1⟩ := zz2 BK1.out; have hsz : W.heap.size < w1.heap.size := blk_lt BK1.out)))
  go_region_held3 (fun w' => w'.cell? ⟨g, 0, none⟩ = some (.slice (some ad) toks.length ct) ∧ w'.cell? ⟨g, 1, none⟩ = some (.int .i64 (n : Int)) ∧ w'.cell? ⟨(ad.add (n * 4)).block, (ad.add (n * 4)).off + 2, none⟩ = some (.string tk.f2)) (with_reducible repeat (first | exact KK.out | refine s_alloc _ ?_ | refine s_drewN _ ?_ | refine s_drew ?_ | refine s_below hbl ?_ | (refine s_put2 ?s3 ?s0 ?s1 ?s2 _ _; (case s0 => (first | assumption | (simp; omega))); (case s1 => (first | assumption | (simp; omega))); (case s2 => (first | assumption | (simp; omega)))))) (first | (go_at_call 140; (with_reducible refine (addr_Parse.calls tk.f2 _ _ _ _ ?sg HFP.out).mono ?_); (case sg => exact PS.g1 (g := g) (toks := toks) (en := en) (at_ := (n : Int)) (Uq18 HP0.out)); rintro e w' ⟨rfl, hbl⟩; have hs1 : W.heap.size < w'.heap.size := (by have h := hbl.size; simp at h; omega); have hs2 : g < w'.heap.size := Nat.lt_trans hg3 hs1; have hs3 : (ad.add (n * 4)).block < w'.heap.size := Nat.lt_trans hlt hs1; try (have nb : w'.heap[W.heap.size + 1]? = some (adO 0 0) := (by have h := blk_below (blk_new ((W.alloc (adO 0 0)).drewN (nq + 1)) (adO 0 0)) hbl; rw [show W.heap.size + 1 = ((W.alloc (adO 0 0)).drewN (nq + 1)).heap.size from by simp]; exact h); obtain ⟨⟨n0, n1⟩, y0, y1⟩ := zz2 nb)))
  · have HPV : Hid (PS g toks en (n : Int) w') := Lib.hid (PS.below (g := g) (toks := toks) (en := en) (at_ := (n : Int)) (Uq18 HP0.out) hbl)
    have HBV : Hid (Bu g (W.alloc (adO 0 0)) w') := Lib.hid (Bu.trans (g := g) (a := W.alloc (adO 0 0)) (Uq19 HB0.out) (Bu.of_below (g := g) hbl))
    have BKV : Hid ((World.heap w')[W.heap.size]? = some (adO 0 0)) := Lib.hid (blk_below (Uq15 BK0.out) hbl)
    have nb := blk_new w' (adO r c)
    obtain ⟨⟨n0, n1⟩, y0, y1⟩ := zz2 nb
    have hq3 : g ≠ w'.heap.size := Nat.ne_of_lt hs2
    clear c0 c1 c2 t0 t1 t2 t3 z1 hlt
    obtain ⟨Av, cv, p0, p1, p2, pz, -, -⟩ := (HPV.out).cells
    obtain ⟨⟨f0, f1⟩, x0, x1⟩ := zz2 BKV.out
    go_wp2
    refine bodyPost_ret (results_ct rfl _ _ W.heap.size 26 _ (0, 0) _ rfl (by with_reducible repeat (first | exact put2_blk (blk_set BKV.out (Nat.ne_of_gt HG.out) _) _ _ | exact BKV.out | refine put2_blk ?_ _ _ | refine blk_alloc ?_ _ | refine blk_set ?_ (Nat.ne_of_gt HG.out) _)) hu rfl (by kernel_rfl)) rfl ?_
    refine ⟨by rfl, ?_, ?_⟩
    · show PS g toks en ((n : Int) + 1) _
      exact (by with_reducible repeat (first | exact HPV.out | refine put2_ps ?_ HG.out _ _ | refine PS.alloc ?_ _ | refine PS.put (at_ := (n : Int)) ?_ _))
    · exact (by with_reducible repeat (first | exact (Bu.alloc g W (adO 0 0)).trans HBV.out | refine put2_bu ?_ (Nat.le_refl _) _ _ | refine Bu.to_alloc ?_ _ | refine Bu.to_set ?_ _ _))
  · have HPV : Hid (PS g toks en (n : Int) (put2 w' (W.heap.size + 1) (.int .i64 r) (.int .i64 c))) := Lib.hid (put2_ps (PS.below (g := g) (toks := toks) (en := en) (at_ := (n : Int)) (Uq18 HP0.out) hbl) (Nat.lt_succ_of_lt HG.out) _ _)
    have HBV : Hid (Bu g (W.alloc (adO 0 0)) (put2 w' (W.heap.size + 1) (.int .i64 r) (.int .i64 c))) := Lib.hid (put2_bu (Bu.trans (g := g) (a := W.alloc (adO 0 0)) (Uq19 HB0.out) (Bu.of_below (g := g) hbl)) (by simp) _ _)
    have BKV : Hid ((World.heap (put2 w' (W.heap.size + 1) (.int .i64 r) (.int .i64 c)))[W.heap.size]? = some (adO 0 0)) := Lib.hid ((put2_old (by omega) _ _).trans (blk_below (Uq15 BK0.out) hbl))
    have nb' := put2_blk nb (.int .i64 r) (.int .i64 c)
    obtain ⟨⟨n2, n3⟩, y2, y3⟩ := zz2 nb'
    have hq3 : g ≠ W.heap.size + 1 := by omega
    clear n0 n1 y0 y1 nb
    clear c0 c1 c2 t0 t1 t2 t3 z1 hlt
    obtain ⟨Av, cv, p0, p1, p2, pz, -, -⟩ := (HPV.out).cells
    obtain ⟨⟨f0, f1⟩, x0, x1⟩ := zz2 BKV.out
    go_wp2
    refine bodyPost_ret (results_ct rfl _ _ W.heap.size 26 _ (0, 0) _ rfl (by with_reducible repeat (first | exact put2_blk (blk_set BKV.out (Nat.ne_of_gt HG.out) _) _ _ | exact BKV.out | refine put2_blk ?_ _ _ | refine blk_alloc ?_ _ | refine blk_set ?_ (Nat.ne_of_gt HG.out) _)) hu rfl (by kernel_rfl)) rfl ?_
    refine ⟨by rfl, ?_, ?_⟩
    · show PS g toks en ((n : Int) + 1) _
      exact (by with_reducible repeat (first | exact HPV.out | refine put2_ps ?_ HG.out _ _ | refine PS.alloc ?_ _ | refine PS.put (at_ := (n : Int)) ?_ _))
    · exact (by with_reducible repeat (first | exact (Bu.alloc g W (adO 0 0)).trans HBV.out | refine put2_bu ?_ (Nat.le_refl _) _ _ | refine Bu.to_alloc ?_ _ | refine Bu.to_set ?_ _ _))
set_option maxHeartbeats 1600000 in
set_option maxRecDepth 100000 in
theorem cell_none (toks : List Tok) (en : Int) (n : Nat) (hlen : toks.length ≤ 1000000) (tk : Tok) (ht : toks[n]? = some tk) (hk : tk.f0 = 3) (ho : opensV toks n = false) (r c : Int) (hf : addr_Parse.f tk.f2 = some (r, c, false)) : CellBad toks en n (placeV toks en n) 13 n := by
  intro g W hp
  have hu := Tryz.underlying26
  have HG := Lib.hid hp.lt
  have HP0 := Lib.hid (hp.alloc (adO 0 0))
  have HB0 := Lib.hid (Bu.refl g (W.alloc (adO 0 0)))
  have BK0 := Lib.hid (blk_new W (adO 0 0))
  have HPW := Lib.hid hp
  have hg1 : (g = W.heap.size) = False := eq_false (Nat.ne_of_lt HG.out)
  have hg2 : (W.heap.size = g) = False := eq_false (Nat.ne_of_gt HG.out)
  have hg3 : g < W.heap.size := HG.out
  obtain ⟨At, ct, c0, c1, c2, z1, hbb, hF⟩ := hp.cells
  obtain ⟨hn, ad, rfl, t0, t1, t2, t3⟩ := PS.tok' hF n tk ht
  have hq : decide ((n : Int) < (toks.length : Int)) = true := decide_eq_true (by omega)
  have hq0 : decide (n < toks.length) = true := decide_eq_true (by omega)
  have hq00 : (n < toks.length) = True := eq_true (by omega)
  have hq1 : ((0 : Int) ≤ (n : Int)) = True := eq_true (by omega)
  have hq2 : ((n : Int) < (toks.length : Int)) = True := eq_true (by omega)
  have w1 : IntKind.i64.wrap ((n : Int) + 1) = (n : Int) + 1 := by rw [i64_w, M.wrap64_id (by unfold I64; omega)]
  have hlt : (ad.add (n * 4)).block < W.heap.size := World.block_lt_of_cell? _ _ t0
  have HN := Lib.hid (Nat.le_of_lt hn)
  have HLEN := Lib.hid hlen
  have hk3 : (tk.f0 == 3) = true := by rw [hk]; rfl
  have HO := Lib.hid ho
  clear hk ho
  have HFP := Lib.hid hf
  clear hf
  have KK := Lib.hid (And.intro c0 (And.intro c1 t2))
  clear hp hbb hF ht hn hlen
  go_enter Tryz.func138, Tryz.ntmps138
  go_wp2
  repeat (go_quiet (((go_at_call 136; (with_reducible refine (opens_quiet g toks en n HN.out HLEN.out _ ?sp).mono ?_); (case sp => exact (Uq18 HP0.out)); rintro e w' ⟨rfl, nd, rfl⟩; rw [HO.out]; (try first | exact ⟨rfl, _, World.drewN_drewN _ _ _⟩ | exact ⟨rfl, _, Eq.trans (World.drewN_drewN _ _ _) (congrArg (World.drewN _) (Nat.add_assoc _ _ _))⟩)))); try go_wp2_with (first | (go_at_call 52; (with_reducible refine (fail_calls g toks en n HN.out _ ?sp).mono ?_); (case sp => exact (Uq18 HP0.out)); rintro e w1 ⟨q, rfl, he, hq, hbl⟩; have HE := Lib.hid he; have HQ := Lib.hid (lo2 (g := g) (o := adO 0 0) (W := W) (Uq19 HB0.out) hq); have hb := Bu.of_below (g := g) hbl; have hp := PS.below (g := g) (toks := toks) (en := en) (at_ := (n : Int)) (Uq18 HP0.out) hbl; clear he hq hbl; have HP1 := Lib.hid hp; have HB1 := Lib.hid (Bu.trans (g := g) (a := W.alloc (adO 0 0)) (Uq19 HB0.out) hb); have BK1 := Lib.hid (hb.blk (k := W.heap.size) (o := adO 0 0) (Uq15 BK0.out) (Nat.ne_of_gt HG.out)); clear hp hb; obtain ⟨⟨f0, f1⟩, y0, y1⟩ := zz2 BK1.out; have hsz : W.heap.size < w1.heap.size := blk_lt BK1.out)))
  go_region_held3 (fun w' => w'.cell? ⟨g, 0, none⟩ = some (.slice (some ad) toks.length ct) ∧ w'.cell? ⟨g, 1, none⟩ = some (.int .i64 (n : Int)) ∧ w'.cell? ⟨(ad.add (n * 4)).block, (ad.add (n * 4)).off + 2, none⟩ = some (.string tk.f2)) (with_reducible repeat (first | exact KK.out | refine s_alloc _ ?_ | refine s_drewN _ ?_ | refine s_drew ?_ | refine s_below hbl ?_ | (refine s_put2 ?s3 ?s0 ?s1 ?s2 _ _; (case s0 => (first | assumption | (simp; omega))); (case s1 => (first | assumption | (simp; omega))); (case s2 => (first | assumption | (simp; omega)))))) (first | (go_at_call 140; (with_reducible refine (addr_Parse.calls tk.f2 _ _ _ _ ?sg HFP.out).mono ?_); (case sg => exact PS.g1 (g := g) (toks := toks) (en := en) (at_ := (n : Int)) (Uq18 HP0.out)); rintro e w' ⟨rfl, hbl⟩; have hs1 : W.heap.size < w'.heap.size := (by have h := hbl.size; simp at h; omega); have hs2 : g < w'.heap.size := Nat.lt_trans hg3 hs1; have hs3 : (ad.add (n * 4)).block < w'.heap.size := Nat.lt_trans hlt hs1; try (have nb : w'.heap[W.heap.size + 1]? = some (adO 0 0) := (by have h := blk_below (blk_new ((W.alloc (adO 0 0)).drewN (nq + 1)) (adO 0 0)) hbl; rw [show W.heap.size + 1 = ((W.alloc (adO 0 0)).drewN (nq + 1)).heap.size from by simp]; exact h); obtain ⟨⟨n0, n1⟩, y0, y1⟩ := zz2 nb)))
  · have HP5 : Hid (PS g toks en (n : Int) w') := Lib.hid (PS.below (g := g) (toks := toks) (en := en) (at_ := (n : Int)) (Uq18 HP0.out) hbl)
    have HB5 : Hid (Bu g (W.alloc (adO 0 0)) w') := Lib.hid (Bu.trans (g := g) (a := W.alloc (adO 0 0)) (Uq19 HB0.out) (Bu.of_below (g := g) hbl))
    have BK5 : Hid ((World.heap w')[W.heap.size]? = some (adO 0 0)) := Lib.hid (blk_below (Uq15 BK0.out) hbl)
    have nb := blk_new w' (adO r c)
    clear c0 c1 c2 t0 t1 t2 t3 z1 hlt
    go_wp2_with (first | (go_at_call 52; (with_reducible refine (fail_calls g toks en n HN.out _ ?sp).mono ?_); (case sp => exact (Uq18 HP5.out)); rintro e w6 ⟨q, rfl, he, hq, hbl⟩; have HE := Lib.hid he; have HQ := Lib.hid (lo2 (g := g) (o := adO 0 0) (W := W) (Uq19 HB5.out) hq); have hb := Bu.of_below (g := g) hbl; have hp := PS.below (g := g) (toks := toks) (en := en) (at_ := (n : Int)) (Uq18 HP5.out) hbl; clear he hq hbl; have HP6 := Lib.hid hp; have HB6 := Lib.hid (Bu.trans (g := g) (a := W.alloc (adO 0 0)) (Uq19 HB5.out) hb); have BK6 := Lib.hid (hb.blk (k := W.heap.size) (o := adO 0 0) (Uq15 BK5.out) (Nat.ne_of_gt HG.out)); clear hp hb; obtain ⟨⟨f0, f1⟩, y0, y1⟩ := zz2 BK6.out; have hsz : W.heap.size < w6.heap.size := blk_lt BK6.out))
    refine bodyPost_ret (results_ct rfl _ _ W.heap.size 26 _ (0, 0) _ rfl (Uq20 BK6.out) hu rfl (by kernel_rfl)) rfl ?_
    refine ⟨q, ?_, ?_, Nat.le_of_lt HQ.out, ?_, ?_⟩
    · rfl
    · exact (Uq21 HE.out)
    · exact (Uq18 HP6.out)
    · exact (Uq22 HB6.out)
  · have HP5 : Hid (PS g toks en (n : Int) (put2 w' (W.heap.size + 1) (.int .i64 r) (.int .i64 c))) := Lib.hid (put2_ps (PS.below (g := g) (toks := toks) (en := en) (at_ := (n : Int)) (Uq18 HP0.out) hbl) (Nat.lt_succ_of_lt HG.out) _ _)
    have HB5 : Hid (Bu g (W.alloc (adO 0 0)) (put2 w' (W.heap.size + 1) (.int .i64 r) (.int .i64 c))) := Lib.hid (put2_bu (Bu.trans (g := g) (a := W.alloc (adO 0 0)) (Uq19 HB0.out) (Bu.of_below (g := g) hbl)) (by simp) _ _)
    have BK5 : Hid ((World.heap (put2 w' (W.heap.size + 1) (.int .i64 r) (.int .i64 c)))[W.heap.size]? = some (adO 0 0)) := Lib.hid ((put2_old (by omega) _ _).trans (blk_below (Uq15 BK0.out) hbl))
    clear c0 c1 c2 t0 t1 t2 t3 z1 hlt
    go_wp2_with (first | (go_at_call 52; (with_reducible refine (fail_calls g toks en n HN.out _ ?sp).mono ?_); (case sp => exact (Uq18 HP5.out)); rintro e w6 ⟨q, rfl, he, hq, hbl⟩; have HE := Lib.hid he; have HQ := Lib.hid (lo2 (g := g) (o := adO 0 0) (W := W) (Uq19 HB5.out) hq); have hb := Bu.of_below (g := g) hbl; have hp := PS.below (g := g) (toks := toks) (en := en) (at_ := (n : Int)) (Uq18 HP5.out) hbl; clear he hq hbl; have HP6 := Lib.hid hp; have HB6 := Lib.hid (Bu.trans (g := g) (a := W.alloc (adO 0 0)) (Uq19 HB5.out) hb); have BK6 := Lib.hid (hb.blk (k := W.heap.size) (o := adO 0 0) (Uq15 BK5.out) (Nat.ne_of_gt HG.out)); clear hp hb; obtain ⟨⟨f0, f1⟩, y0, y1⟩ := zz2 BK6.out; have hsz : W.heap.size < w6.heap.size := blk_lt BK6.out))
    refine bodyPost_ret (results_ct rfl _ _ W.heap.size 26 _ (0, 0) _ rfl (Uq20 BK6.out) hu rfl (by kernel_rfl)) rfl ?_
    refine ⟨q, ?_, ?_, Nat.le_of_lt HQ.out, ?_, ?_⟩
    · rfl
    · exact (Uq21 HE.out)
    · exact (Uq18 HP6.out)
    · exact (Uq22 HB6.out)
end Go.Proofs.YtnomfbmebafolaaGreatDoor.P

namespace Go.Proofs.YtnomfbmebafolaaGreatDoor.P
open Go.RowKit Go.Proofs.YtnomfbmebafolaaGreatDoorW.PrintWords Go.Proofs.YtnomfbmebafolaaGreatDoorW.PrintLast Go.Proofs.YtnomfbmebafolaaGreatDoorW.PrintMore
open M (I64)
set_option linter.unusedVariables false
set_option linter.unusedSimpArgs false
abbrev PF := Nat → PR × Nat
abbrev sixL : List ByteArray := [⟨#[61]⟩, ⟨#[60, 62]⟩, ⟨#[60]⟩, ⟨#[60, 61]⟩, ⟨#[62]⟩, ⟨#[62, 61]⟩]
abbrev sumL : List ByteArray := [⟨#[43]⟩, ⟨#[45]⟩, ⟨#[38]⟩]
abbrev prodL : List ByteArray := [⟨#[42]⟩, ⟨#[47]⟩, ⟨#[37]⟩]
def callT (s : ByteArray) (l : List TN) : TN := ⟨6, ⟨0, 0, ⟨#[]⟩⟩, ⟨⟨0, 0⟩, ⟨0, 0⟩⟩, s, l⟩
section
variable (toks : List Tok) (en : Int)
def failF (n : Nat) : PR × Nat := (.bad (placeV toks en n) 13, n)
def rowF (part : PF) (l : List ByteArray) : Nat → TN → Nat → PR × Nat
  | 0, _, n => (.bad 0 0, n)
  | k + 1, a, n =>
    match signV toks n l with
    | (_, false, n') => (.ok a, n')
    | (s, true, n') =>
      match part n' with
      | (.bad p c, n2) => (.bad p c, n2)
      | (.ok b, n2) => rowF part l k (twoT s a b) n2
def rowsF (part : PF) (l : List ByteArray) (n : Nat) : PR × Nat :=
  match part n with
  | (.bad p c, n2) => (.bad p c, n2)
  | (.ok a, n2) => rowF toks part l (toks.length + 1) a n2
def formF (sum : PF) (n : Nat) : PR × Nat :=
  match sum n with
  | (.bad p c, n1) => (.bad p c, n1)
  | (.ok a, n1) =>
    match signV toks n1 sixL with
    | (_, false, n2) => (.ok a, n2)
    | (s, true, n2) =>
      match sum n2 with
      | (.bad p c, n3) => (.bad p c, n3)
      | (.ok b, n3) => (.ok (twoT s a b), n3)
def powF (un pow' : PF) (n : Nat) : PR × Nat :=
  match un n with
  | (.bad p c, n1) => (.bad p c, n1)
  | (.ok a, n1) =>
    match signV toks n1 [⟨#[94]⟩] with
    | (_, false, n2) => (.ok a, n2)
    | (_, true, n2) =>
      match pow' n2 with
      | (.bad p c, n3) => (.bad p c, n3)
      | (.ok b, n3) => (.ok (twoT ⟨#[94]⟩ a b), n3)
def unF (part un' : PF) (n : Nat) : PR × Nat :=
  match signV toks n [⟨#[45]⟩] with
  | (_, false, n1) => part n1
  | (_, true, n1) =>
    match un' n1 with
    | (.bad p c, n2) => (.bad p c, n2)
    | (.ok a, n2) => (.ok (negT a), n2)
def withinF (form' : PF) (n : Nat) : PR × Nat :=
  match form' n with
  | (.bad p c, n1) => (.bad p c, n1)
  | (.ok a, n1) =>
    match signV toks n1 [⟨#[41]⟩] with
    | (_, false, n2) => failF toks en n2
    | (_, true, n2) => (.ok a, n2)
def cellF (n : Nat) : Option (Int × Int) :=
  match toks[n]? with
  | none => none
  | some tk => if tk.f0 = 3 then (if opensV toks n = true then none else match addr_Parse.f tk.f2 with | some (r, c, true) => some (r, c) | _ => none) else none
def argsF (form' : PF) (s : ByteArray) : Nat → List TN → Nat → PR × Nat
  | 0, _, n => failF toks en n
  | k + 1, l, n =>
    match form' n with
    | (.bad p c, n1) => (.bad p c, n1)
    | (.ok a, n1) =>
      match signV toks n1 [⟨#[44]⟩] with
      | (_, true, n2) => argsF form' s k (l ++ [a]) n2
      | (_, false, n2) =>
        match signV toks n2 [⟨#[41]⟩] with
        | (_, true, n3) => (.ok (callT s (l ++ [a])), n3)
        | (_, false, n3) => failF toks en n3
def callF (form' : PF) (s : ByteArray) (n : Nat) : PR × Nat :=
  if 8 < s.size then failF toks en n else
    match signV toks (n + 2) [⟨#[41]⟩] with
    | (_, true, n1) => (.ok (callT s []), n1)
    | (_, false, n1) => argsF toks en form' s 10 [] n1
def nameF (form' : PF) (s : ByteArray) (n : Nat) : PR × Nat :=
  if opensV toks n = true then callF toks en form' s n else
    if (s.toList == ([84, 82, 85, 69] : List UInt8)) = true then (.ok (constT ⟨1, 1, ⟨#[]⟩⟩), n + 1) else
    if (s.toList == ([70, 65, 76, 83, 69] : List UInt8)) = true then (.ok (constT ⟨1, 0, ⟨#[]⟩⟩), n + 1) else
    match cellF toks n with
    | none => failF toks en n
    | some (r, c) =>
      match signV toks (n + 1) [⟨#[58]⟩] with
      | (_, false, n2) => (.ok (cellT r c), n2)
      | (_, true, n2) =>
        match cellF toks n2 with
        | none => failF toks en n2
        | some (x, y) => match addr_Made.f r c x y with | some (u1, u2, u3, u4, _) => (.ok (rangeT u1 u2 u3 u4), n2 + 1) | none => (.bad 0 0, n2)
def partF (form' : PF) (n : Nat) : PR × Nat :=
  match toks[n]? with
  | none => failF toks en n
  | some tk =>
    if tk.f0 = 1 then (.ok (constT ⟨2, tk.f1, ⟨#[]⟩⟩), n + 1) else
    if tk.f0 = 2 then (if tk.f2.size ≤ 200 then (.ok (constT ⟨3, 0, tk.f2⟩), n + 1) else failF toks en n) else
    if tk.f0 = 3 then nameF toks en form' tk.f2 n else
    if tk.f0 = 4 then (match signV toks n [⟨#[40]⟩] with | (_, false, n1) => failF toks en n1 | (_, true, n1) => withinF toks en form' n1) else
    failF toks en n
structure Lv where
  form : PF
  pow : PF
  un : PF
def prodF (pow : PF) : PF := rowsF toks pow prodL
def sumF (pow : PF) : PF := rowsF toks (prodF toks pow) sumL
def lv : Nat → Lv
  | 0 => ⟨fun n => (.bad 0 14, n), fun n => (.bad 0 14, n), fun n => (.bad 0 14, n)⟩
  | d + 1 =>
    let L := lv d
    let un : PF := unF toks (partF toks en L.form) L.un
    let pow : PF := powF toks un L.pow
    ⟨formF toks (sumF toks pow), pow, un⟩
end
def Fit (toks : List Tok) (F : PF) : Prop := ∀ n, n ≤ toks.length → n ≤ (F n).2 ∧ (F n).2 ≤ toks.length ∧ ∀ t m, F n = (.ok t, m) → n < m
theorem sign_cases (toks : List Tok) (n : Nat) (l : List ByteArray) : (signV toks n l = (⟨#[]⟩, false, n)) ∨ (∃ s, signV toks n l = (s, true, n + 1) ∧ n < toks.length) := by
  unfold signV
  cases e : toks[n]? with
  | none => exact Or.inl rfl
  | some t =>
    obtain ⟨h1, -⟩ := List.getElem?_eq_some_iff.1 e
    dsimp only
    by_cases h4 : t.f0 = 4
    · rw [if_pos h4]
      by_cases h5 : inL l t.f2 = true
      · rw [if_pos h5]; exact Or.inr ⟨_, rfl, h1⟩
      · rw [if_neg h5]; exact Or.inl rfl
    · rw [if_neg h4]; exact Or.inl rfl
theorem Fit.le {toks : List Tok} {F : PF} (h : Fit toks F) {n m : Nat} {r : PR} (hn : n ≤ toks.length) (e : F n = (r, m)) : n ≤ m ∧ m ≤ toks.length := by
  have := h n hn; rw [e] at this; exact ⟨this.1, this.2.1⟩
theorem Fit.lt {toks : List Tok} {F : PF} (h : Fit toks F) {n m : Nat} {t : TN} (hn : n ≤ toks.length) (e : F n = (.ok t, m)) : n < m := (h n hn).2.2 t m e
theorem fit_row {toks : List Tok} {part : PF} (hp : Fit toks part) (l : List ByteArray) : ∀ (k : Nat) (a : TN) (n : Nat), n ≤ toks.length → n ≤ (rowF toks part l k a n).2 ∧ (rowF toks part l k a n).2 ≤ toks.length := by
  intro k
  induction k with
  | zero => intro a n hn; exact ⟨Nat.le_refl _, hn⟩
  | succ k ih =>
    intro a n hn
    unfold rowF
    rcases sign_cases toks n l with e | ⟨s, e, hlt⟩
    · rw [e]; exact ⟨Nat.le_refl _, hn⟩
    · rw [e]
      dsimp only
      cases e2 : part (n + 1) with
      | mk r m =>
        have h2 := hp.le (by omega) e2
        cases r with
        | bad p c => dsimp only; omega
        | ok b => dsimp only; have := ih (twoT s a b) m h2.2; omega
theorem fit_rows {toks : List Tok} {part : PF} (hp : Fit toks part) (l : List ByteArray) : Fit toks (rowsF toks part l) := by
  intro n hn
  unfold rowsF
  cases e : part n with
  | mk r m =>
    have h := hp.le hn e
    cases r with
    | bad p c => exact ⟨h.1, h.2, fun t m h => by cases h⟩
    | ok a =>
      have h1 := hp.lt hn e
      have h2 := fit_row hp l (toks.length + 1) a m h.2
      dsimp only
      exact ⟨by omega, h2.2, fun t m' e' => by rw [e'] at h2; have := h2.1; dsimp only at this; omega⟩
theorem Fit.mk {toks : List Tok} {F : PF} (h : ∀ n, n ≤ toks.length → ∃ r m, F n = (r, m) ∧ n ≤ m ∧ m ≤ toks.length ∧ ∀ t, r = .ok t → n < m) : Fit toks F := by
  intro n hn
  obtain ⟨r, m, e, h1, h2, h3⟩ := h n hn
  rw [e]
  exact ⟨h1, h2, fun t m' h => by cases h; exact h3 t rfl⟩
theorem fit_form {toks : List Tok} {sum : PF} (hs : Fit toks sum) : Fit toks (formF toks sum) := by
  refine Fit.mk fun n hn => ?_
  unfold formF
  cases e : sum n with
  | mk r m =>
    have h := hs.le hn e
    cases r with
    | bad p c => exact ⟨_, _, rfl, h.1, h.2, fun t h => by cases h⟩
    | ok a =>
      have h1 := hs.lt hn e
      dsimp only
      rcases sign_cases toks m sixL with e1 | ⟨s, e1, hlt⟩
      · rw [e1]; exact ⟨_, _, rfl, h.1, h.2, fun t _ => h1⟩
      · rw [e1]
        dsimp only
        cases e2 : sum (m + 1) with
        | mk r2 m2 =>
          have h2 := hs.le (by omega) e2
          cases r2 with
          | bad p c => exact ⟨_, _, rfl, by omega, h2.2, fun t h => by cases h⟩
          | ok b => exact ⟨_, _, rfl, by omega, h2.2, fun t _ => by omega⟩
theorem fit_pow {toks : List Tok} {un pow' : PF} (hu : Fit toks un) (hp : Fit toks pow') : Fit toks (powF toks un pow') := by
  refine Fit.mk fun n hn => ?_
  unfold powF
  cases e : un n with
  | mk r m =>
    have h := hu.le hn e
    cases r with
    | bad p c => exact ⟨_, _, rfl, h.1, h.2, fun t h => by cases h⟩
    | ok a =>
      have h1 := hu.lt hn e
      dsimp only
      rcases sign_cases toks m [⟨#[94]⟩] with e1 | ⟨s, e1, hlt⟩
      · rw [e1]; exact ⟨_, _, rfl, h.1, h.2, fun t _ => h1⟩
      · rw [e1]
        dsimp only
        cases e2 : pow' (m + 1) with
        | mk r2 m2 =>
          have h2 := hp.le (by omega) e2
          cases r2 with
          | bad p c => exact ⟨_, _, rfl, by omega, h2.2, fun t h => by cases h⟩
          | ok b => exact ⟨_, _, rfl, by omega, h2.2, fun t _ => by omega⟩
theorem fit_un {toks : List Tok} {part un' : PF} (hp : Fit toks part) (hu : Fit toks un') : Fit toks (unF toks part un') := by
  refine Fit.mk fun n hn => ?_
  unfold unF
  rcases sign_cases toks n [⟨#[45]⟩] with e1 | ⟨s, e1, hlt⟩
  · rw [e1]
    dsimp only
    exact ⟨(part n).1, (part n).2, rfl, (hp n hn).1, (hp n hn).2.1, fun t h => (hp n hn).2.2 t _ (by rw [← h])⟩
  · rw [e1]
    dsimp only
    cases e2 : un' (n + 1) with
    | mk r2 m2 =>
      have h2 := hu.le (by omega) e2
      cases r2 with
      | bad p c => exact ⟨_, _, rfl, by omega, h2.2, fun t h => by cases h⟩
      | ok b => exact ⟨_, _, rfl, by omega, h2.2, fun t _ => by omega⟩
theorem fit_within {toks : List Tok} {en : Int} {form' : PF} (hf : Fit toks form') : Fit toks (withinF toks en form') := by
  refine Fit.mk fun n hn => ?_
  unfold withinF
  cases e : form' n with
  | mk r m =>
    have h := hf.le hn e
    cases r with
    | bad p c => exact ⟨_, _, rfl, h.1, h.2, fun t h => by cases h⟩
    | ok a =>
      have h1 := hf.lt hn e
      dsimp only
      rcases sign_cases toks m [⟨#[41]⟩] with e1 | ⟨s, e1, hlt⟩
      · rw [e1]; exact ⟨_, _, rfl, h.1, h.2, fun t h => by cases h⟩
      · rw [e1]; exact ⟨_, _, rfl, by omega, by omega, fun t _ => by omega⟩
theorem cellF_lt {toks : List Tok} {n : Nat} {x : Int × Int} (h : cellF toks n = some x) : n < toks.length := by
  unfold cellF at h
  cases e : toks[n]? with
  | none => rw [e] at h; cases h
  | some t => exact (List.getElem?_eq_some_iff.1 e).1
theorem fit_args {toks : List Tok} {en : Int} {form' : PF} (hf : Fit toks form') (s : ByteArray) : ∀ (k : Nat) (l : List TN) (n : Nat), n ≤ toks.length → n ≤ (argsF toks en form' s k l n).2 ∧ (argsF toks en form' s k l n).2 ≤ toks.length := by
  intro k
  induction k with
  | zero => intro l n hn; exact ⟨Nat.le_refl _, hn⟩
  | succ k ih =>
    intro l n hn
    unfold argsF
    cases e : form' n with
    | mk r m =>
      have h := hf.le hn e
      cases r with
      | bad p c => dsimp only; exact h
      | ok a =>
        dsimp only
        rcases sign_cases toks m [⟨#[44]⟩] with e1 | ⟨s1, e1, hlt⟩
        · rw [e1]
          dsimp only
          rcases sign_cases toks m [⟨#[41]⟩] with e2 | ⟨s2, e2, hlt2⟩
          · rw [e2]; exact h
          · rw [e2]; dsimp only; omega
        · rw [e1]; dsimp only; have := ih (l ++ [a]) (m + 1) (by omega); omega
theorem opens_lt {toks : List Tok} {n : Nat} (h : opensV toks n = true) : n + 1 < toks.length := by
  unfold opensV at h
  cases e : toks[n + 1]? with
  | none => rw [e] at h; cases h
  | some t => exact (List.getElem?_eq_some_iff.1 e).1
theorem fit_call {toks : List Tok} {en : Int} {form' : PF} (hf : Fit toks form') (s : ByteArray) (n : Nat) (hn : n + 2 ≤ toks.length) : n ≤ (callF toks en form' s n).2 ∧ (callF toks en form' s n).2 ≤ toks.length ∧ ∀ t m, callF toks en form' s n = (.ok t, m) → n < m := by
  unfold callF
  by_cases h8 : 8 < s.size
  · rw [if_pos h8]; exact ⟨Nat.le_refl _, by show n ≤ _; omega, fun t m h => by cases h⟩
  · rw [if_neg h8]
    rcases sign_cases toks (n + 2) [⟨#[41]⟩] with e | ⟨s1, e, hlt⟩
    · rw [e]
      dsimp only
      have h := fit_args (en := en) hf s 10 [] (n + 2) hn
      exact ⟨by omega, h.2, fun t m e => by rw [e] at h; have := h.1; dsimp only at this; omega⟩
    · rw [e]; dsimp only; exact ⟨by omega, by omega, fun t m h => by cases h; omega⟩
theorem fit_name {toks : List Tok} {en : Int} {form' : PF} (hf : Fit toks form') (s : ByteArray) (n : Nat) (hn : n < toks.length) : n ≤ (nameF toks en form' s n).2 ∧ (nameF toks en form' s n).2 ≤ toks.length ∧ ∀ t m, nameF toks en form' s n = (.ok t, m) → n < m := by
  unfold nameF
  by_cases h0 : opensV toks n = true
  · rw [if_pos h0]
    exact fit_call hf s n (opens_lt h0)
  · rw [if_neg h0]
    by_cases h1 : (s.toList == ([84, 82, 85, 69] : List UInt8)) = true
    · rw [if_pos h1]; exact ⟨by dsimp only; omega, by dsimp only; omega, fun t m h => by cases h; omega⟩
    · rw [if_neg h1]
      by_cases h2 : (s.toList == ([70, 65, 76, 83, 69] : List UInt8)) = true
      · rw [if_pos h2]; exact ⟨by dsimp only; omega, by dsimp only; omega, fun t m h => by cases h; omega⟩
      · rw [if_neg h2]
        cases ea : cellF toks n with
        | none => exact ⟨Nat.le_refl _, by show n ≤ _; omega, fun t m h => by cases h⟩
        | some x =>
          obtain ⟨r, c⟩ := x
          dsimp only
          rcases sign_cases toks (n + 1) [⟨#[58]⟩] with e | ⟨s1, e, hlt⟩
          · rw [e]; exact ⟨by dsimp only; omega, by dsimp only; omega, fun t m h => by cases h; omega⟩
          · rw [e]
            dsimp only
            cases eb : cellF toks (n + 1 + 1) with
            | none => exact ⟨by show n ≤ n + 1 + 1; omega, by show n + 1 + 1 ≤ _; omega, fun t m h => by cases h⟩
            | some y =>
              obtain ⟨x, y⟩ := y
              have := cellF_lt eb
              dsimp only
              cases em : addr_Made.f r c x y with
              | none => exact ⟨by dsimp only; omega, by dsimp only; omega, fun t m h => by cases h⟩
              | some z =>
                obtain ⟨z1, z2, z3, z4, z5⟩ := z
                exact ⟨by dsimp only; omega, by dsimp only; omega, fun t m h => by cases h; omega⟩
theorem fit_part {toks : List Tok} {en : Int} {form' : PF} (hf : Fit toks form') : Fit toks (partF toks en form') := by
  intro n hn
  unfold partF
  cases e : toks[n]? with
  | none => exact ⟨Nat.le_refl _, hn, fun t m h => by cases h⟩
  | some tk =>
    have hlt := (List.getElem?_eq_some_iff.1 e).1
    dsimp only
    by_cases h1 : tk.f0 = 1
    · rw [if_pos h1]; exact ⟨by dsimp only; omega, by dsimp only; omega, fun t m h => by cases h; omega⟩
    · rw [if_neg h1]
      by_cases h2 : tk.f0 = 2
      · rw [if_pos h2]
        by_cases hs : tk.f2.size ≤ 200
        · rw [if_pos hs]; exact ⟨by dsimp only; omega, by dsimp only; omega, fun t m h => by cases h; omega⟩
        · rw [if_neg hs]; exact ⟨Nat.le_refl _, hn, fun t m h => by cases h⟩
      · rw [if_neg h2]
        by_cases h3 : tk.f0 = 3
        · rw [if_pos h3]; exact fit_name hf tk.f2 n hlt
        · rw [if_neg h3]
          by_cases h4 : tk.f0 = 4
          · rw [if_pos h4]
            rcases sign_cases toks n [⟨#[40]⟩] with e1 | ⟨s1, e1, hlt1⟩
            · rw [e1]; exact ⟨Nat.le_refl _, hn, fun t m h => by cases h⟩
            · rw [e1]
              dsimp only
              have := fit_within (en := en) hf (n + 1) (by omega)
              exact ⟨by omega, this.2.1, fun t m h => by have := this.2.2 t m h; omega⟩
          · rw [if_neg h4]; exact ⟨Nat.le_refl _, hn, fun t m h => by cases h⟩
theorem fit_lv (toks : List Tok) (en : Int) : ∀ d, Fit toks (lv toks en d).form ∧ Fit toks (lv toks en d).pow ∧ Fit toks (lv toks en d).un := by
  intro d
  induction d with
  | zero =>
    have : Fit toks (fun n => (.bad 0 14, n)) := fun n hn => ⟨Nat.le_refl _, hn, fun t m h => by cases h⟩
    exact ⟨this, this, this⟩
  | succ d ih =>
    obtain ⟨h1, h2, h3⟩ := ih
    have hu := fit_un (fit_part (en := en) h1) h3
    have hp := fit_pow hu h2
    exact ⟨fit_form (fit_rows (fit_rows hp _) _), hp, hu⟩
end Go.Proofs.YtnomfbmebafolaaGreatDoor.P

namespace Go.Proofs.YtnomfbmebafolaaGreatDoor.P
open Go.RowKit Go.Proofs.YtnomfbmebafolaaGreatDoorW.PrintWords Go.Proofs.YtnomfbmebafolaaGreatDoorW.PrintLast Go.Proofs.YtnomfbmebafolaaGreatDoorW.PrintMore
open M (I64)
set_option linter.unusedVariables false
set_option linter.unusedSimpArgs false
inductive RowR (m : Nat) (toks : List Tok) (en i : Int) (l : List ByteArray) : TN → Nat → PR × Nat → Prop where
  | stop {a : TN} {n : Nat} (s : ByteArray) (n' : Nat) (hn : n ≤ toks.length) (hs : signV toks n l = (s, false, n')) : RowR m toks en i l a n (.ok a, n')
  | bad {a : TN} {n : Nat} (s : ByteArray) (n' : Nat) (p c : Int) (n2 : Nat) (hn : n ≤ toks.length) (hs : signV toks n l = (s, true, n')) (hf : Does m toks en i n' (.bad p c, n2)) (hle : n ≤ n2) : RowR m toks en i l a n (.bad p c, n2)
  | more {a : TN} {n : Nat} {r : PR × Nat} (s : ByteArray) (n' : Nat) (b : TN) (n2 : Nat) (hn : n ≤ toks.length) (hs : signV toks n l = (s, true, n')) (hf : Does m toks en i n' (.ok b, n2)) (hlt : n < n2) (h : RowR m toks en i l (twoT s a b) n2 r) : RowR m toks en i l a n r
theorem vN.cut {ok : Nat → Prop} {W : World} {v : Value} {l : List TN} (h : vN ok W v l) : vN (fun k => ok k ∧ k < W.heap.size) W v l := by
  obtain ⟨A, c, rfl, hl, hF⟩ := h
  exact ⟨A, c, rfl, hl, fun W' hW => hF W' (fun k hk hlt => hW k ⟨hk, hlt⟩ hlt)⟩
theorem signV_lt {toks : List Tok} {n : Nat} {l : List ByteArray} {s : ByteArray} {n' : Nat} (h : signV toks n l = (s, true, n')) : n < toks.length ∧ n' = n + 1 := by
  unfold signV at h
  cases e : toks[n]? with
  | none => rw [e] at h; simp at h
  | some t =>
    rw [e] at h
    obtain ⟨h1, -⟩ := List.getElem?_eq_some_iff.1 e
    dsimp only at h
    by_cases h4 : t.f0 = 4
    · by_cases h5 : inL l t.f2 = true
      · rw [if_pos h4, if_pos h5] at h
        simp at h
        exact ⟨h1, h.2.symm⟩
      · rw [if_pos h4, if_neg h5] at h; simp at h
    · rw [if_neg h4] at h; simp at h
def atOf (g : Nat) (w : World) : Nat := match w.cell? ⟨g, 1, none⟩ with | some (.int _ k) => k.toNat | _ => 0
theorem PS.atOf {g : Nat} {toks : List Tok} {en : Int} {n : Nat} {W : World} (h : PS g toks en (n : Int) W) : atOf g W = n := by
  obtain ⟨A, c, c0, c1, -⟩ := h.cells
  unfold P.atOf
  rw [c1]; simp
def errMu (v : Value) : Nat := match v with | .nilIface => 1 | _ => 0
theorem mu_bad {g : Nat} {toks : List Tok} {en : Int} {n n3 q : Nat} {t : TypeId} {wr : World} (hp : PS g toks en (n : Int) wr) (h1 : n < toks.length) (h2 : n ≤ n3) (wx : World) (hx : PS g toks en (n3 : Int) wx) :
    2 * (toks.length - P.atOf g wx) + errMu (.iface t (ptr q)) < 2 * (toks.length - P.atOf g wr) + errMu .nilIface := by
  rw [PS.atOf hp, PS.atOf hx]
  simp only [errMu]
  omega
theorem mu_more {g : Nat} {toks : List Tok} {en : Int} {n n3 : Nat} {wr : World} (hp : PS g toks en (n : Int) wr) (h1 : n < toks.length) (h2 : n < n3) (wx : World) (hx : PS g toks en (n3 : Int) wx) :
    2 * (toks.length - P.atOf g wx) + errMu .nilIface < 2 * (toks.length - P.atOf g wr) + errMu .nilIface := by
  rw [PS.atOf hp, PS.atOf hx]
  simp only [errMu]
  omega
def RowS (m : Nat) (toks : List Tok) (en i : Int) (l : List ByteArray) (g : Nat) (W : World) (Ba : Nat) (r : PR × Nat) (v : Value) (wr : World) : Prop :=
  (∃ a n AA kk, v = .nilIface ∧ RowR m toks en i l a n r ∧ PS g toks en (n : Int) wr ∧ Bu g (W.alloc nd0) wr ∧ wr.heap[W.heap.size]? = some nd0 ∧ wr.heap[Ba]? = some (ndO a (.slice AA a.f4.length kk)) ∧ vN (fun k => W.heap.size < k ∧ k ≠ Ba) wr (.slice AA a.f4.length kk) a.f4) ∨
  (∃ p c n q, v = .iface 78 (ptr q) ∧ r = (.bad p c, n) ∧ PS g toks en (n : Int) wr ∧ Bu g (W.alloc nd0) wr ∧ wr.heap[W.heap.size]? = some nd0 ∧ wr.heap[q]? = some (.cells #[.int .i64 p, .int .i64 c] 82 (0, 0)) ∧ W.heap.size < q)
def RowE (g : Nat) (W : World) (p c : Int) (n : Nat) (toks : List Tok) (en : Int) (v : Value) (wr : World) : Prop :=
  ∃ q, v = .iface 78 (ptr q) ∧ PS g toks en (n : Int) wr ∧ Bu g (W.alloc nd0) wr ∧ wr.heap[W.heap.size]? = some nd0 ∧ wr.heap[q]? = some (.cells #[.int .i64 p, .int .i64 c] 82 (0, 0)) ∧ W.heap.size < q
theorem Uq23 {p q : Prop} (h0 : p) (h : p → q := by intro h_; with_reducible repeat (first | exact h_ | exact Bu.refl _ _ | refine Bu.to_alloc ?_ _ | refine put10_bu ?_ (Nat.le_refl _) _ _ _ _ _ _ _ _ _ _ | refine put10_bu ?_ (Nat.le_of_lt HZ1.out) _ _ _ _ _ _ _ _ _ _ | refine put10_bu ?_ (HB1.out.size) _ _ _ _ _ _ _ _ _ _ | refine put10_bu ?_ (HB2.out.size) _ _ _ _ _ _ _ _ _ _)) : q := h h0
theorem Uq24 {p q : Prop} (h0 : p) (h : p → q := by intro h_; with_reducible repeat (first | exact h_ | exact blk_new _ _ | refine (put10_old (Nat.ne_of_lt (Nat.lt_trans HZ1.out HL12.out)) _ _ _ _ _ _ _ _ _ _).trans ?_ | refine blk_alloc ?_ _ | refine (put10_old (Nat.ne_of_lt HZ1.out) _ _ _ _ _ _ _ _ _ _).trans ?_ | refine (put10_old (Nat.ne_of_lt HZ2.out) _ _ _ _ _ _ _ _ _ _).trans ?_ | refine (put10_old (Nat.ne_of_lt HL12.out) _ _ _ _ _ _ _ _ _ _).trans ?_)) : q := h h0
theorem Uq25 {p q : Prop} (h0 : p) (h : p → q := by intro h_; with_reducible repeat (first | exact h_ | refine PS.alloc ?_ _ | refine put10_ps ?_ HG.out _ _ _ _ _ _ _ _ _ _ | refine put10_ps ?_ (Nat.lt_trans HG.out HZ1.out) _ _ _ _ _ _ _ _ _ _ | refine put10_ps ?_ (Nat.lt_trans HG.out HZ2.out) _ _ _ _ _ _ _ _ _ _)) : q := h h0
theorem Uq26 {p q : Prop} (h0 : p) (h : p → q := by intro h_; with_reducible repeat (first | exact h_ | refine blk_alloc ?_ _)) : q := h h0
theorem Uq27 {p q : Prop} (h0 : p) (h : p → q := by intro h_; with_reducible repeat (first | exact (Bu.alloc g W nd0).trans h_ | refine Bu.to_alloc ?_ _ | refine put10_bu ?_ (Nat.le_refl _) _ _ _ _ _ _ _ _ _ _ | refine put10_bu ?_ (Nat.le_of_lt HZ1.out) _ _ _ _ _ _ _ _ _ _ | refine put10_bu ?_ (HB1.out.size) _ _ _ _ _ _ _ _ _ _ | refine put10_bu ?_ (HB2.out.size) _ _ _ _ _ _ _ _ _ _)) : q := h h0
set_option maxHeartbeats 8000000 in
set_option maxRecDepth 100000 in
theorem row_product_ok (toks : List Tok) (en i : Int) (n n1 : Nat) (l : List ByteArray) (hl : l.length ≤ 1000) (hlen : toks.length ≤ 1000000) (g qs : Nat) (W : World) (hp : PS g toks en (n : Int) W) (hqs : W.heap[qs]? = some (.cells (l.map Value.string).toArray 9 (0, 0))) (hgs : qs ≠ g) (a : TN) (r : PR × Nat) (hf : Does 93 toks en i n (.ok a, n1)) (hr : RowR 93 toks en i l a n1 r) :
    Calls Tryz.prog 92 #[ptr g, .int .i64 i, .func (.func 93) #[ptr g] #[], .slice (some ⟨qs, 0, none⟩) l.length l.length] W fun e W' => PS g toks en (r.2 : Int) W' ∧ Bu g W W' ∧ Ret W.heap.size r.1 W' e := by
  have hu := Tryz.underlying31
  have HG := Lib.hid hp.lt
  have HP0 := Lib.hid (hp.alloc nd0)
  have HB0 := Lib.hid (Bu.refl g (W.alloc nd0))
  have BK0 := Lib.hid (blk_new W nd0)
  have HPW := Lib.hid hp
  have HF := Lib.hid hf
  have HLEN := Lib.hid hlen
  have HL := Lib.hid hl
  have HQS := Lib.hid hqs
  have HGS := Lib.hid hgs
  have HR := Lib.hid hr
  clear hp hf hr hlen hl hqs hgs
  go_enter Tryz.func92, Tryz.ntmps92
  go_wp2_with (first | (go_at_call 93; (with_reducible refine (HF.out.ok g _ ?sp).mono ?_); (case sp => exact HP0.out); rintro e w1 ⟨hp, hb, v1, rfl, hv⟩; obtain ⟨AA1, kk1, rfl⟩ := Kd.V_slice hv; have HV1 := Lib.hid (Kd.V_mono (ok' := (fun k => W.heap.size < k ∧ k ≠ w1.heap.size)) (vN.cut hv) (fun k hk => ⟨lo (g := g) (o := nd0) (W := W) (Uq23 HB0.out) hk.1, Nat.ne_of_lt hk.2⟩)); clear hv; have HP1 := Lib.hid hp; have HB1 := Lib.hid (Bu.trans (g := g) (a := W.alloc nd0) (Uq23 HB0.out) hb); have BK1 := Lib.hid (hb.blk (k := W.heap.size) (o := nd0) (Uq24 BK0.out) (Nat.ne_of_gt HG.out)); clear hp hb; (try clear c0 c1 c2 c3 c4 c5 c6 c7 c8 c9 z0 z1 z2 z3 z4 z5 z6 z7 z8 z9); (try clear a0 a1 a2 a3 a4 a5 a6 a7 a8 a9 x0 x1 x2 x3 x4 x5 x6 x7 x8 x9 hsa); obtain ⟨⟨c0, c1, c2, c3, c4, c5, c6, c7, c8, c9⟩, z0, z1, z2, z3, z4, z5, z6, z7, z8, z9⟩ := z10 BK1.out; have HZ1 := Lib.hid (blk_lt BK1.out)))
  go_loopw [11] (RowS 93 toks en i l g W w1.heap.size r) (fun v wr => 2 * (toks.length - atOf g wr) + errMu v)
  case atStart => exact Or.inl ⟨a, n1, AA1, kk1, rfl, HR.out, HP1.out.alloc _, HB1.out.to_alloc _, blk_alloc BK1.out _, blk_new _ _, Kd.V_alloc HV1.out _⟩
  case round =>
    clear HR HF HV1 HP0
    rcases hrel with ⟨a', n', AA, kk, rfl, hr, hp, hb, hbk, hba, hv⟩ | ⟨p, c, n', q, rfl, rfl, hp, hb, hbk, he, hq⟩
    · have HPr := Lib.hid hp
      have HBr := Lib.hid hb
      have BKr := Lib.hid hbk
      have BA := Lib.hid hba
      have HV := Lib.hid hv
      have HQ0 := Lib.hid ((hb.blk (blk_alloc HQS.out nd0)) HGS.out)
      clear hp hb hbk hba hv
      cases hr with
      | stop s n2 hn hs =>
        have HN := Lib.hid hn
        have HS := Lib.hid hs
        clear hn hs
        go_wp2_with (first | (go_at_call 75; (with_reducible refine (sign_of g toks en _ HN.out _ _ _ _ _ _ _ HS.out HL.out HLEN.out _ ?sp ?s2 ?s3 ?s4).mono ?_); (case sp => exact (Uq25 HPr.out)); (case s2 => exact strC HQ0.out HL.out); (case s3 => exact Nat.le_refl _); (case s4 => rfl); rintro e w2 ⟨rfl, hp, hb⟩; have HV2 := Lib.hid (vN.cut (vN.bu (ok := (fun k => W.heap.size < k ∧ k ≠ w1.heap.size)) HV.out hb (fun k hk => Nat.ne_of_gt (Nat.lt_trans HG.out hk.1)))); have HQ2 := Lib.hid (hb.blk (Uq26 HQ0.out) HGS.out); have HP2 := Lib.hid hp; have HB2 := Lib.hid (Bu.trans (g := g) (a := W.alloc nd0) (Uq23 HBr.out) hb); have BK2 := Lib.hid (hb.blk (k := W.heap.size) (o := nd0) (Uq24 BKr.out) (Nat.ne_of_gt HG.out)); have BA2 := Lib.hid (hb.blk (k := w1.heap.size) (o := ndO a' (.slice AA a'.f4.length kk)) (Uq24 BA.out) (Nat.ne_of_gt (Nat.lt_trans HG.out HZ1.out))); clear hp hb; (try clear c0 c1 c2 c3 c4 c5 c6 c7 c8 c9 z0 z1 z2 z3 z4 z5 z6 z7 z8 z9); (try clear a0 a1 a2 a3 a4 a5 a6 a7 a8 a9 x0 x1 x2 x3 x4 x5 x6 x7 x8 x9 hsa); obtain ⟨⟨c0, c1, c2, c3, c4, c5, c6, c7, c8, c9⟩, z0, z1, z2, z3, z4, z5, z6, z7, z8, z9⟩ := z10 BK2.out; obtain ⟨⟨a0, a1, a2, a3, a4, a5, a6, a7, a8, a9⟩, x0, x1, x2, x3, x4, x5, x6, x7, x8, x9⟩ := z10 BA2.out; have hsa := blk_lt BA2.out; have HZ2 := Lib.hid (blk_lt BK2.out); have HL12 := Lib.hid (blk_lt BA2.out)))
        refine bodyPost_ret (results_ct rfl _ _ W.heap.size 31 _ (0, 0) _ rfl (Uq4 BK2.out) hu rfl (by kernel_rfl)) rfl ?_
        refine ⟨?_, ?_, .slice AA a'.f4.length kk, ?_, Kd.V_mono (put10_vN (ok := fun k => W.heap.size < k) (Kd.V_mono HV2.out (fun k hk => hk.1.1)) (fun k hk => Nat.ne_of_gt hk) _ _ _ _ _ _ _ _ _ _) (fun k hk => Nat.le_of_lt hk)⟩
        · exact (Uq25 HP2.out)
        · exact (Uq27 HB2.out)
        · rfl
      | bad s n2 p c n3 hn hs hf hle =>
        have HN := Lib.hid hn
        have HS := Lib.hid hs
        have HF := Lib.hid hf
        have hlt := (signV_lt hs).1
        have HLT := Lib.hid hlt
        have HLE := Lib.hid hle
        clear hn hs hf hlt hle
        go_wp2_with (first | (go_at_call 75; (with_reducible refine (sign_of g toks en _ HN.out _ _ _ _ _ _ _ HS.out HL.out HLEN.out _ ?sp ?s2 ?s3 ?s4).mono ?_); (case sp => exact (Uq25 HPr.out)); (case s2 => exact strC HQ0.out HL.out); (case s3 => exact Nat.le_refl _); (case s4 => rfl); rintro e w2 ⟨rfl, hp, hb⟩; have HV2 := Lib.hid (vN.cut (vN.bu (ok := (fun k => W.heap.size < k ∧ k ≠ w1.heap.size)) HV.out hb (fun k hk => Nat.ne_of_gt (Nat.lt_trans HG.out hk.1)))); have HQ2 := Lib.hid (hb.blk (Uq26 HQ0.out) HGS.out); have HP2 := Lib.hid hp; have HB2 := Lib.hid (Bu.trans (g := g) (a := W.alloc nd0) (Uq23 HBr.out) hb); have BK2 := Lib.hid (hb.blk (k := W.heap.size) (o := nd0) (Uq24 BKr.out) (Nat.ne_of_gt HG.out)); have BA2 := Lib.hid (hb.blk (k := w1.heap.size) (o := ndO a' (.slice AA a'.f4.length kk)) (Uq24 BA.out) (Nat.ne_of_gt (Nat.lt_trans HG.out HZ1.out))); clear hp hb; (try clear c0 c1 c2 c3 c4 c5 c6 c7 c8 c9 z0 z1 z2 z3 z4 z5 z6 z7 z8 z9); (try clear a0 a1 a2 a3 a4 a5 a6 a7 a8 a9 x0 x1 x2 x3 x4 x5 x6 x7 x8 x9 hsa); obtain ⟨⟨c0, c1, c2, c3, c4, c5, c6, c7, c8, c9⟩, z0, z1, z2, z3, z4, z5, z6, z7, z8, z9⟩ := z10 BK2.out; obtain ⟨⟨a0, a1, a2, a3, a4, a5, a6, a7, a8, a9⟩, x0, x1, x2, x3, x4, x5, x6, x7, x8, x9⟩ := z10 BA2.out; have hsa := blk_lt BA2.out; have HZ2 := Lib.hid (blk_lt BK2.out); have HL12 := Lib.hid (blk_lt BA2.out)) | (go_at_call 93; (with_reducible refine (HF.out.bad g _ ?sp).mono ?_); (case sp => exact (Uq25 HP2.out)); rintro e w3 ⟨hp, hb, q, rfl, he, hq⟩; have HE := Lib.hid he; have HQ := Lib.hid (lo (g := g) (o := nd0) (W := W) (Uq23 HB2.out) hq); have HQ2_ := Lib.hid (show w2.heap.size < q by (have hq' := hq; simp at hq'; omega)); clear he hq; have HN2 := Lib.hid (hb.blk (k := w2.heap.size) (o := nd0) (blk_new _ _) (Nat.ne_of_gt (Nat.lt_trans HG.out HZ2.out))); have HP3 := Lib.hid hp; have HB3 := Lib.hid (Bu.trans (g := g) (a := W.alloc nd0) (Uq23 HB2.out) hb); have BK3 := Lib.hid (hb.blk (k := W.heap.size) (o := nd0) (Uq24 BK2.out) (Nat.ne_of_gt HG.out)); have BA3 := Lib.hid (hb.blk (k := w1.heap.size) (o := ndO a' (.slice AA a'.f4.length kk)) (Uq24 BA2.out) (Nat.ne_of_gt (Nat.lt_trans HG.out HZ1.out))); clear hp hb; (try clear c0 c1 c2 c3 c4 c5 c6 c7 c8 c9 z0 z1 z2 z3 z4 z5 z6 z7 z8 z9); (try clear a0 a1 a2 a3 a4 a5 a6 a7 a8 a9 x0 x1 x2 x3 x4 x5 x6 x7 x8 x9 hsa); obtain ⟨⟨c0, c1, c2, c3, c4, c5, c6, c7, c8, c9⟩, z0, z1, z2, z3, z4, z5, z6, z7, z8, z9⟩ := z10 BK3.out; obtain ⟨⟨a0, a1, a2, a3, a4, a5, a6, a7, a8, a9⟩, x0, x1, x2, x3, x4, x5, x6, x7, x8, x9⟩ := z10 BA3.out; have hsa := blk_lt BA3.out; obtain ⟨⟨b0, b1, b2, b3, b4, b5, b6, b7, b8, b9⟩, y0, y1, y2, y3, y4, y5, y6, y7, y8, y9⟩ := z10 HN2.out))
        go_roundw
        case rel => exact Or.inr ⟨p, c, n3, q, rfl, rfl, (Uq25 HP3.out), (Uq23 HB3.out), (Uq24 BK3.out), (put10_old (Nat.ne_of_gt HQ2_.out) _ _ _ _ _ _ _ _ _ _).trans HE.out, HQ.out⟩
        case measure => exact mu_bad HPr.out HLT.out HLE.out _ (Uq25 HP3.out)
      | more s n2 b n3 hn hs hf hlt h =>
        have HN := Lib.hid hn
        have HS := Lib.hid hs
        have HF := Lib.hid hf
        have HLS := Lib.hid (signV_lt hs).1
        have HLT := Lib.hid hlt
        have HR := Lib.hid h
        clear hn hs hf hlt h
        go_wp2_with (first | (go_at_call 75; (with_reducible refine (sign_of g toks en _ HN.out _ _ _ _ _ _ _ HS.out HL.out HLEN.out _ ?sp ?s2 ?s3 ?s4).mono ?_); (case sp => exact (Uq25 HPr.out)); (case s2 => exact strC HQ0.out HL.out); (case s3 => exact Nat.le_refl _); (case s4 => rfl); rintro e w2 ⟨rfl, hp, hb⟩; have HV2 := Lib.hid (vN.cut (vN.bu (ok := (fun k => W.heap.size < k ∧ k ≠ w1.heap.size)) HV.out hb (fun k hk => Nat.ne_of_gt (Nat.lt_trans HG.out hk.1)))); have HQ2 := Lib.hid (hb.blk (Uq26 HQ0.out) HGS.out); have HP2 := Lib.hid hp; have HB2 := Lib.hid (Bu.trans (g := g) (a := W.alloc nd0) (Uq23 HBr.out) hb); have BK2 := Lib.hid (hb.blk (k := W.heap.size) (o := nd0) (Uq24 BKr.out) (Nat.ne_of_gt HG.out)); have BA2 := Lib.hid (hb.blk (k := w1.heap.size) (o := ndO a' (.slice AA a'.f4.length kk)) (Uq24 BA.out) (Nat.ne_of_gt (Nat.lt_trans HG.out HZ1.out))); clear hp hb; (try clear c0 c1 c2 c3 c4 c5 c6 c7 c8 c9 z0 z1 z2 z3 z4 z5 z6 z7 z8 z9); (try clear a0 a1 a2 a3 a4 a5 a6 a7 a8 a9 x0 x1 x2 x3 x4 x5 x6 x7 x8 x9 hsa); obtain ⟨⟨c0, c1, c2, c3, c4, c5, c6, c7, c8, c9⟩, z0, z1, z2, z3, z4, z5, z6, z7, z8, z9⟩ := z10 BK2.out; obtain ⟨⟨a0, a1, a2, a3, a4, a5, a6, a7, a8, a9⟩, x0, x1, x2, x3, x4, x5, x6, x7, x8, x9⟩ := z10 BA2.out; have hsa := blk_lt BA2.out; have HZ2 := Lib.hid (blk_lt BK2.out); have HL12 := Lib.hid (blk_lt BA2.out)) | (go_at_call 93; (with_reducible refine (HF.out.ok g _ ?sp).mono ?_); (case sp => exact (Uq25 HP2.out)); rintro e w3 ⟨hp, hb, v3, rfl, hv⟩; obtain ⟨AA3, kk3, rfl⟩ := Kd.V_slice hv; have HV3 := Lib.hid (Kd.V_mono (ok' := fun k => (fun k => W.heap.size < k ∧ k ≠ w1.heap.size) k ∧ k ≠ w2.heap.size) hv (fun k hk => (by have h1 := HZ1.out; have h2 := HZ2.out; have h12 := HL12.out; simp at hk; refine ⟨⟨?_, ?_⟩, ?_⟩ <;> omega))); have HV2b := Lib.hid (vN.bu (ok := fun k => (fun k => W.heap.size < k ∧ k ≠ w1.heap.size) k ∧ k < w2.heap.size) (Kd.V_alloc HV2.out nd0) hb (fun k hk => Nat.ne_of_gt (Nat.lt_trans HG.out hk.1.1))); clear hv; have HN2 := Lib.hid (hb.blk (k := w2.heap.size) (o := nd0) (blk_new _ _) (Nat.ne_of_gt (Nat.lt_trans HG.out HZ2.out))); have HP3 := Lib.hid hp; have HB3 := Lib.hid (Bu.trans (g := g) (a := W.alloc nd0) (Uq23 HB2.out) hb); have BK3 := Lib.hid (hb.blk (k := W.heap.size) (o := nd0) (Uq24 BK2.out) (Nat.ne_of_gt HG.out)); have BA3 := Lib.hid (hb.blk (k := w1.heap.size) (o := ndO a' (.slice AA a'.f4.length kk)) (Uq24 BA2.out) (Nat.ne_of_gt (Nat.lt_trans HG.out HZ1.out))); clear hp hb; (try clear c0 c1 c2 c3 c4 c5 c6 c7 c8 c9 z0 z1 z2 z3 z4 z5 z6 z7 z8 z9); (try clear a0 a1 a2 a3 a4 a5 a6 a7 a8 a9 x0 x1 x2 x3 x4 x5 x6 x7 x8 x9 hsa); obtain ⟨⟨c0, c1, c2, c3, c4, c5, c6, c7, c8, c9⟩, z0, z1, z2, z3, z4, z5, z6, z7, z8, z9⟩ := z10 BK3.out; obtain ⟨⟨a0, a1, a2, a3, a4, a5, a6, a7, a8, a9⟩, x0, x1, x2, x3, x4, x5, x6, x7, x8, x9⟩ := z10 BA3.out; have hsa := blk_lt BA3.out; obtain ⟨⟨b0, b1, b2, b3, b4, b5, b6, b7, b8, b9⟩, y0, y1, y2, y3, y4, y5, y6, y7, y8, y9⟩ := z10 HN2.out; have hsb := blk_lt HN2.out; have HSB := Lib.hid hsb; have hs12 : w1.heap.size < w2.heap.size := HL12.out; have hs02 : W.heap.size < w2.heap.size := HZ2.out) | (go_at_call 76; (with_reducible refine (two_calls (fun k => W.heap.size < k ∧ k ≠ w1.heap.size) _ a' b (.slice AA a'.f4.length kk) (.slice AA3 b.f4.length kk3) _ ?sk ?sa ?sb).mono ?_); (case sk => exact (fun k hk => (by have h1 := HZ1.out; have h2 := HZ2.out; have h12 := HL12.out; have h3 := HSB.out; simp [World.setCell] at hk; refine ⟨?_, ?_⟩ <;> omega))); (case sa => exact Kd.V_mono (put10_vN HV2b.out (fun k hk => Nat.ne_of_lt hk.2) _ _ _ _ _ _ _ _ _ _) (fun k hk => hk.1)); (case sb => exact Kd.V_mono (put10_vN HV3.out (fun k hk => hk.2) _ _ _ _ _ _ _ _ _ _) (fun k hk => hk.1)); rintro e w4 ⟨v4, rfl, hv, hbl⟩; obtain ⟨AA4, kk4, rfl⟩ := Kd.V_slice hv; have HV4 := Lib.hid hv; clear hv; have hb := Bu.of_below (g := g) hbl; have hp := PS.below (g := g) (toks := toks) (en := en) (at_ := (n3 : Int)) (Uq25 HP3.out) hbl; clear hbl; have HP4 := Lib.hid hp; have HB4 := Lib.hid (Bu.trans (g := g) (a := W.alloc nd0) (Uq23 HB3.out) hb); have BK4 := Lib.hid (hb.blk (k := W.heap.size) (o := nd0) (Uq24 BK3.out) (Nat.ne_of_gt HG.out)); have BA4 := Lib.hid (hb.blk (k := w1.heap.size) (o := ndO a' (.slice AA a'.f4.length kk)) (Uq24 BA3.out) (Nat.ne_of_gt (Nat.lt_trans HG.out HZ1.out))); clear hp hb; (try clear c0 c1 c2 c3 c4 c5 c6 c7 c8 c9 z0 z1 z2 z3 z4 z5 z6 z7 z8 z9); (try clear a0 a1 a2 a3 a4 a5 a6 a7 a8 a9 x0 x1 x2 x3 x4 x5 x6 x7 x8 x9 hsa); obtain ⟨⟨c0, c1, c2, c3, c4, c5, c6, c7, c8, c9⟩, z0, z1, z2, z3, z4, z5, z6, z7, z8, z9⟩ := z10 BK4.out; obtain ⟨⟨a0, a1, a2, a3, a4, a5, a6, a7, a8, a9⟩, x0, x1, x2, x3, x4, x5, x6, x7, x8, x9⟩ := z10 BA4.out; have hsa := blk_lt BA4.out))
        go_roundw
        case rel => exact Or.inl ⟨twoT s a' b, n3, AA4, kk4, rfl, HR.out, (Uq25 HP4.out), (Uq23 HB4.out), (Uq24 BK4.out), put10_blk BA4.out _ _ _ _ _ _ _ _ _ _, put10_vN HV4.out (fun k hk => hk.2) _ _ _ _ _ _ _ _ _ _⟩
        case measure => exact mu_more HPr.out HLS.out HLT.out _ (Uq25 HP4.out)
    · have HP2 := Lib.hid hp
      have HB2 := Lib.hid hb
      have BK2 := Lib.hid hbk
      have HE := Lib.hid he
      have HQ := Lib.hid hq
      obtain ⟨⟨c0, c1, c2, c3, c4, c5, c6, c7, c8, c9⟩, z0, z1, z2, z3, z4, z5, z6, z7, z8, z9⟩ := z10 BK2.out
      clear hp hb hbk he hq
      go_wp2
      refine bodyPost_ret (results_ct rfl _ _ W.heap.size 31 _ (0, 0) _ rfl (Uq4 BK2.out) hu rfl (by kernel_rfl)) rfl ?_
      refine ⟨?_, ?_, q, ?_, ?_, Nat.le_of_lt HQ.out⟩
      · exact (Uq25 HP2.out)
      · exact (Uq27 HB2.out)
      · rfl
      · exact (Uq7 HE.out)
set_option maxHeartbeats 8000000 in
set_option maxRecDepth 100000 in
theorem row_product_bad (toks : List Tok) (en i : Int) (n n1 : Nat) (l : List ByteArray) (hl : l.length ≤ 1000) (hlen : toks.length ≤ 1000000) (g qs : Nat) (W : World) (hp : PS g toks en (n : Int) W) (hqs : W.heap[qs]? = some (.cells (l.map Value.string).toArray 9 (0, 0))) (hgs : qs ≠ g) (p c : Int) (hf : Does 93 toks en i n (.bad p c, n1)) :
    Calls Tryz.prog 92 #[ptr g, .int .i64 i, .func (.func 93) #[ptr g] #[], .slice (some ⟨qs, 0, none⟩) l.length l.length] W fun e W' => PS g toks en (((PR.bad p c, n1) : PR × Nat).2 : Int) W' ∧ Bu g W W' ∧ Ret W.heap.size ((PR.bad p c, n1) : PR × Nat).1 W' e := by
  have hu := Tryz.underlying31
  have HG := Lib.hid hp.lt
  have HP0 := Lib.hid (hp.alloc nd0)
  have HB0 := Lib.hid (Bu.refl g (W.alloc nd0))
  have BK0 := Lib.hid (blk_new W nd0)
  have HPW := Lib.hid hp
  have HF := Lib.hid hf
  have HLEN := Lib.hid hlen
  have HL := Lib.hid hl
  have HQS := Lib.hid hqs
  have HGS := Lib.hid hgs
  clear hp hf hlen hl hqs hgs
  go_enter Tryz.func92, Tryz.ntmps92
  go_wp2_with (first | (go_at_call 93; (with_reducible refine (HF.out.bad g _ ?sp).mono ?_); (case sp => exact HP0.out); rintro e w1 ⟨hp, hb, q, rfl, he, hq⟩; have HE := Lib.hid he; have HQ := Lib.hid (lo (g := g) (o := nd0) (W := W) (Uq23 HB0.out) hq); clear he hq; have HP1 := Lib.hid hp; have HB1 := Lib.hid (Bu.trans (g := g) (a := W.alloc nd0) (Uq23 HB0.out) hb); have BK1 := Lib.hid (hb.blk (k := W.heap.size) (o := nd0) (Uq24 BK0.out) (Nat.ne_of_gt HG.out)); clear hp hb; (try clear c0 c1 c2 c3 c4 c5 c6 c7 c8 c9 z0 z1 z2 z3 z4 z5 z6 z7 z8 z9); (try clear a0 a1 a2 a3 a4 a5 a6 a7 a8 a9 x0 x1 x2 x3 x4 x5 x6 x7 x8 x9 hsa); obtain ⟨⟨c0, c1, c2, c3, c4, c5, c6, c7, c8, c9⟩, z0, z1, z2, z3, z4, z5, z6, z7, z8, z9⟩ := z10 BK1.out; have HZ1 := Lib.hid (blk_lt BK1.out)))
  go_loopw [11] (RowE g W p c n1 toks en) (fun _ _ => 0)
  case atStart => exact ⟨q, rfl, HP1.out.alloc _, HB1.out.to_alloc _, blk_alloc BK1.out _, blk_alloc HE.out _, HQ.out⟩
  case round =>
    clear HF HP0 HP1 HB1 BK1 HE HQ
    obtain ⟨q, rfl, hp, hb, hbk, he, hq⟩ := hrel
    have HP2 := Lib.hid hp
    have HB2 := Lib.hid hb
    have BK2 := Lib.hid hbk
    have HE := Lib.hid he
    have HQ := Lib.hid hq
    (try clear c0 c1 c2 c3 c4 c5 c6 c7 c8 c9 z0 z1 z2 z3 z4 z5 z6 z7 z8 z9)
    obtain ⟨⟨c0, c1, c2, c3, c4, c5, c6, c7, c8, c9⟩, z0, z1, z2, z3, z4, z5, z6, z7, z8, z9⟩ := z10 BK2.out
    clear hp hb hbk he hq
    go_wp2
    refine bodyPost_ret (results_ct rfl _ _ W.heap.size 31 _ (0, 0) _ rfl (Uq4 BK2.out) hu rfl (by kernel_rfl)) rfl ?_
    refine ⟨?_, ?_, q, ?_, ?_, Nat.le_of_lt HQ.out⟩
    · exact (Uq25 HP2.out)
    · exact (Uq27 HB2.out)
    · rfl
    · exact (Uq7 HE.out)
end Go.Proofs.YtnomfbmebafolaaGreatDoor.P

namespace Go.Proofs.YtnomfbmebafolaaGreatDoor.P
open Go.RowKit Go.Proofs.YtnomfbmebafolaaGreatDoorW.PrintWords Go.Proofs.YtnomfbmebafolaaGreatDoorW.PrintLast Go.Proofs.YtnomfbmebafolaaGreatDoorW.PrintMore
open M (I64)
set_option linter.unusedVariables false
set_option linter.unusedSimpArgs false
set_option maxHeartbeats 8000000 in
set_option maxRecDepth 100000 in
theorem row_power_ok (toks : List Tok) (en i : Int) (n n1 : Nat) (l : List ByteArray) (hl : l.length ≤ 1000) (hlen : toks.length ≤ 1000000) (g qs : Nat) (W : World) (hp : PS g toks en (n : Int) W) (hqs : W.heap[qs]? = some (.cells (l.map Value.string).toArray 9 (0, 0))) (hgs : qs ≠ g) (a : TN) (r : PR × Nat) (hf : Does 109 toks en i n (.ok a, n1)) (hr : RowR 109 toks en i l a n1 r) :
    Calls Tryz.prog 92 #[ptr g, .int .i64 i, .func (.func 109) #[ptr g] #[], .slice (some ⟨qs, 0, none⟩) l.length l.length] W fun e W' => PS g toks en (r.2 : Int) W' ∧ Bu g W W' ∧ Ret W.heap.size r.1 W' e := by
  have hu := Tryz.underlying31
  have HG := Lib.hid hp.lt
  have HP0 := Lib.hid (hp.alloc nd0)
  have HB0 := Lib.hid (Bu.refl g (W.alloc nd0))
  have BK0 := Lib.hid (blk_new W nd0)
  have HPW := Lib.hid hp
  have HF := Lib.hid hf
  have HLEN := Lib.hid hlen
  have HL := Lib.hid hl
  have HQS := Lib.hid hqs
  have HGS := Lib.hid hgs
  have HR := Lib.hid hr
  clear hp hf hr hlen hl hqs hgs
  go_enter Tryz.func92, Tryz.ntmps92
  go_wp2_with (first | (go_at_call 109; (with_reducible refine (HF.out.ok g _ ?sp).mono ?_); (case sp => exact HP0.out); rintro e w1 ⟨hp, hb, v1, rfl, hv⟩; obtain ⟨AA1, kk1, rfl⟩ := Kd.V_slice hv; have HV1 := Lib.hid (Kd.V_mono (ok' := (fun k => W.heap.size < k ∧ k ≠ w1.heap.size)) (vN.cut hv) (fun k hk => ⟨lo (g := g) (o := nd0) (W := W) (Uq23 HB0.out) hk.1, Nat.ne_of_lt hk.2⟩)); clear hv; have HP1 := Lib.hid hp; have HB1 := Lib.hid (Bu.trans (g := g) (a := W.alloc nd0) (Uq23 HB0.out) hb); have BK1 := Lib.hid (hb.blk (k := W.heap.size) (o := nd0) (Uq24 BK0.out) (Nat.ne_of_gt HG.out)); clear hp hb; (try clear c0 c1 c2 c3 c4 c5 c6 c7 c8 c9 z0 z1 z2 z3 z4 z5 z6 z7 z8 z9); (try clear a0 a1 a2 a3 a4 a5 a6 a7 a8 a9 x0 x1 x2 x3 x4 x5 x6 x7 x8 x9 hsa); obtain ⟨⟨c0, c1, c2, c3, c4, c5, c6, c7, c8, c9⟩, z0, z1, z2, z3, z4, z5, z6, z7, z8, z9⟩ := z10 BK1.out; have HZ1 := Lib.hid (blk_lt BK1.out)))
  go_loopw [11] (RowS 109 toks en i l g W w1.heap.size r) (fun v wr => 2 * (toks.length - atOf g wr) + errMu v)
  case atStart => exact Or.inl ⟨a, n1, AA1, kk1, rfl, HR.out, HP1.out.alloc _, HB1.out.to_alloc _, blk_alloc BK1.out _, blk_new _ _, Kd.V_alloc HV1.out _⟩
  case round =>
    clear HR HF HV1 HP0
    rcases hrel with ⟨a', n', AA, kk, rfl, hr, hp, hb, hbk, hba, hv⟩ | ⟨p, c, n', q, rfl, rfl, hp, hb, hbk, he, hq⟩
    · have HPr := Lib.hid hp
      have HBr := Lib.hid hb
      have BKr := Lib.hid hbk
      have BA := Lib.hid hba
      have HV := Lib.hid hv
      have HQ0 := Lib.hid ((hb.blk (blk_alloc HQS.out nd0)) HGS.out)
      clear hp hb hbk hba hv
      cases hr with
      | stop s n2 hn hs =>
        have HN := Lib.hid hn
        have HS := Lib.hid hs
        clear hn hs
        go_wp2_with (first | (go_at_call 75; (with_reducible refine (sign_of g toks en _ HN.out _ _ _ _ _ _ _ HS.out HL.out HLEN.out _ ?sp ?s2 ?s3 ?s4).mono ?_); (case sp => exact (Uq25 HPr.out)); (case s2 => exact strC HQ0.out HL.out); (case s3 => exact Nat.le_refl _); (case s4 => rfl); rintro e w2 ⟨rfl, hp, hb⟩; have HV2 := Lib.hid (vN.cut (vN.bu (ok := (fun k => W.heap.size < k ∧ k ≠ w1.heap.size)) HV.out hb (fun k hk => Nat.ne_of_gt (Nat.lt_trans HG.out hk.1)))); have HQ2 := Lib.hid (hb.blk (Uq26 HQ0.out) HGS.out); have HP2 := Lib.hid hp; have HB2 := Lib.hid (Bu.trans (g := g) (a := W.alloc nd0) (Uq23 HBr.out) hb); have BK2 := Lib.hid (hb.blk (k := W.heap.size) (o := nd0) (Uq24 BKr.out) (Nat.ne_of_gt HG.out)); have BA2 := Lib.hid (hb.blk (k := w1.heap.size) (o := ndO a' (.slice AA a'.f4.length kk)) (Uq24 BA.out) (Nat.ne_of_gt (Nat.lt_trans HG.out HZ1.out))); clear hp hb; (try clear c0 c1 c2 c3 c4 c5 c6 c7 c8 c9 z0 z1 z2 z3 z4 z5 z6 z7 z8 z9); (try clear a0 a1 a2 a3 a4 a5 a6 a7 a8 a9 x0 x1 x2 x3 x4 x5 x6 x7 x8 x9 hsa); obtain ⟨⟨c0, c1, c2, c3, c4, c5, c6, c7, c8, c9⟩, z0, z1, z2, z3, z4, z5, z6, z7, z8, z9⟩ := z10 BK2.out; obtain ⟨⟨a0, a1, a2, a3, a4, a5, a6, a7, a8, a9⟩, x0, x1, x2, x3, x4, x5, x6, x7, x8, x9⟩ := z10 BA2.out; have hsa := blk_lt BA2.out; have HZ2 := Lib.hid (blk_lt BK2.out); have HL12 := Lib.hid (blk_lt BA2.out)))
        refine bodyPost_ret (results_ct rfl _ _ W.heap.size 31 _ (0, 0) _ rfl (Uq4 BK2.out) hu rfl (by kernel_rfl)) rfl ?_
        refine ⟨?_, ?_, .slice AA a'.f4.length kk, ?_, Kd.V_mono (put10_vN (ok := fun k => W.heap.size < k) (Kd.V_mono HV2.out (fun k hk => hk.1.1)) (fun k hk => Nat.ne_of_gt hk) _ _ _ _ _ _ _ _ _ _) (fun k hk => Nat.le_of_lt hk)⟩
        · exact (Uq25 HP2.out)
        · exact (Uq27 HB2.out)
        · rfl
      | bad s n2 p c n3 hn hs hf hle =>
        have HN := Lib.hid hn
        have HS := Lib.hid hs
        have HF := Lib.hid hf
        have hlt := (signV_lt hs).1
        have HLT := Lib.hid hlt
        have HLE := Lib.hid hle
        clear hn hs hf hlt hle
        go_wp2_with (first | (go_at_call 75; (with_reducible refine (sign_of g toks en _ HN.out _ _ _ _ _ _ _ HS.out HL.out HLEN.out _ ?sp ?s2 ?s3 ?s4).mono ?_); (case sp => exact (Uq25 HPr.out)); (case s2 => exact strC HQ0.out HL.out); (case s3 => exact Nat.le_refl _); (case s4 => rfl); rintro e w2 ⟨rfl, hp, hb⟩; have HV2 := Lib.hid (vN.cut (vN.bu (ok := (fun k => W.heap.size < k ∧ k ≠ w1.heap.size)) HV.out hb (fun k hk => Nat.ne_of_gt (Nat.lt_trans HG.out hk.1)))); have HQ2 := Lib.hid (hb.blk (Uq26 HQ0.out) HGS.out); have HP2 := Lib.hid hp; have HB2 := Lib.hid (Bu.trans (g := g) (a := W.alloc nd0) (Uq23 HBr.out) hb); have BK2 := Lib.hid (hb.blk (k := W.heap.size) (o := nd0) (Uq24 BKr.out) (Nat.ne_of_gt HG.out)); have BA2 := Lib.hid (hb.blk (k := w1.heap.size) (o := ndO a' (.slice AA a'.f4.length kk)) (Uq24 BA.out) (Nat.ne_of_gt (Nat.lt_trans HG.out HZ1.out))); clear hp hb; (try clear c0 c1 c2 c3 c4 c5 c6 c7 c8 c9 z0 z1 z2 z3 z4 z5 z6 z7 z8 z9); (try clear a0 a1 a2 a3 a4 a5 a6 a7 a8 a9 x0 x1 x2 x3 x4 x5 x6 x7 x8 x9 hsa); obtain ⟨⟨c0, c1, c2, c3, c4, c5, c6, c7, c8, c9⟩, z0, z1, z2, z3, z4, z5, z6, z7, z8, z9⟩ := z10 BK2.out; obtain ⟨⟨a0, a1, a2, a3, a4, a5, a6, a7, a8, a9⟩, x0, x1, x2, x3, x4, x5, x6, x7, x8, x9⟩ := z10 BA2.out; have hsa := blk_lt BA2.out; have HZ2 := Lib.hid (blk_lt BK2.out); have HL12 := Lib.hid (blk_lt BA2.out)) | (go_at_call 109; (with_reducible refine (HF.out.bad g _ ?sp).mono ?_); (case sp => exact (Uq25 HP2.out)); rintro e w3 ⟨hp, hb, q, rfl, he, hq⟩; have HE := Lib.hid he; have HQ := Lib.hid (lo (g := g) (o := nd0) (W := W) (Uq23 HB2.out) hq); have HQ2_ := Lib.hid (show w2.heap.size < q by (have hq' := hq; simp at hq'; omega)); clear he hq; have HN2 := Lib.hid (hb.blk (k := w2.heap.size) (o := nd0) (blk_new _ _) (Nat.ne_of_gt (Nat.lt_trans HG.out HZ2.out))); have HP3 := Lib.hid hp; have HB3 := Lib.hid (Bu.trans (g := g) (a := W.alloc nd0) (Uq23 HB2.out) hb); have BK3 := Lib.hid (hb.blk (k := W.heap.size) (o := nd0) (Uq24 BK2.out) (Nat.ne_of_gt HG.out)); have BA3 := Lib.hid (hb.blk (k := w1.heap.size) (o := ndO a' (.slice AA a'.f4.length kk)) (Uq24 BA2.out) (Nat.ne_of_gt (Nat.lt_trans HG.out HZ1.out))); clear hp hb; (try clear c0 c1 c2 c3 c4 c5 c6 c7 c8 c9 z0 z1 z2 z3 z4 z5 z6 z7 z8 z9); (try clear a0 a1 a2 a3 a4 a5 a6 a7 a8 a9 x0 x1 x2 x3 x4 x5 x6 x7 x8 x9 hsa); obtain ⟨⟨c0, c1, c2, c3, c4, c5, c6, c7, c8, c9⟩, z0, z1, z2, z3, z4, z5, z6, z7, z8, z9⟩ := z10 BK3.out; obtain ⟨⟨a0, a1, a2, a3, a4, a5, a6, a7, a8, a9⟩, x0, x1, x2, x3, x4, x5, x6, x7, x8, x9⟩ := z10 BA3.out; have hsa := blk_lt BA3.out; obtain ⟨⟨b0, b1, b2, b3, b4, b5, b6, b7, b8, b9⟩, y0, y1, y2, y3, y4, y5, y6, y7, y8, y9⟩ := z10 HN2.out))
        go_roundw
        case rel => exact Or.inr ⟨p, c, n3, q, rfl, rfl, (Uq25 HP3.out), (Uq23 HB3.out), (Uq24 BK3.out), (put10_old (Nat.ne_of_gt HQ2_.out) _ _ _ _ _ _ _ _ _ _).trans HE.out, HQ.out⟩
        case measure => exact mu_bad HPr.out HLT.out HLE.out _ (Uq25 HP3.out)
      | more s n2 b n3 hn hs hf hlt h =>
        have HN := Lib.hid hn
        have HS := Lib.hid hs
        have HF := Lib.hid hf
        have HLS := Lib.hid (signV_lt hs).1
        have HLT := Lib.hid hlt
        have HR := Lib.hid h
        clear hn hs hf hlt h
        go_wp2_with (first | (go_at_call 75; (with_reducible refine (sign_of g toks en _ HN.out _ _ _ _ _ _ _ HS.out HL.out HLEN.out _ ?sp ?s2 ?s3 ?s4).mono ?_); (case sp => exact (Uq25 HPr.out)); (case s2 => exact strC HQ0.out HL.out); (case s3 => exact Nat.le_refl _); (case s4 => rfl); rintro e w2 ⟨rfl, hp, hb⟩; have HV2 := Lib.hid (vN.cut (vN.bu (ok := (fun k => W.heap.size < k ∧ k ≠ w1.heap.size)) HV.out hb (fun k hk => Nat.ne_of_gt (Nat.lt_trans HG.out hk.1)))); have HQ2 := Lib.hid (hb.blk (Uq26 HQ0.out) HGS.out); have HP2 := Lib.hid hp; have HB2 := Lib.hid (Bu.trans (g := g) (a := W.alloc nd0) (Uq23 HBr.out) hb); have BK2 := Lib.hid (hb.blk (k := W.heap.size) (o := nd0) (Uq24 BKr.out) (Nat.ne_of_gt HG.out)); have BA2 := Lib.hid (hb.blk (k := w1.heap.size) (o := ndO a' (.slice AA a'.f4.length kk)) (Uq24 BA.out) (Nat.ne_of_gt (Nat.lt_trans HG.out HZ1.out))); clear hp hb; (try clear c0 c1 c2 c3 c4 c5 c6 c7 c8 c9 z0 z1 z2 z3 z4 z5 z6 z7 z8 z9); (try clear a0 a1 a2 a3 a4 a5 a6 a7 a8 a9 x0 x1 x2 x3 x4 x5 x6 x7 x8 x9 hsa); obtain ⟨⟨c0, c1, c2, c3, c4, c5, c6, c7, c8, c9⟩, z0, z1, z2, z3, z4, z5, z6, z7, z8, z9⟩ := z10 BK2.out; obtain ⟨⟨a0, a1, a2, a3, a4, a5, a6, a7, a8, a9⟩, x0, x1, x2, x3, x4, x5, x6, x7, x8, x9⟩ := z10 BA2.out; have hsa := blk_lt BA2.out; have HZ2 := Lib.hid (blk_lt BK2.out); have HL12 := Lib.hid (blk_lt BA2.out)) | (go_at_call 109; (with_reducible refine (HF.out.ok g _ ?sp).mono ?_); (case sp => exact (Uq25 HP2.out)); rintro e w3 ⟨hp, hb, v3, rfl, hv⟩; obtain ⟨AA3, kk3, rfl⟩ := Kd.V_slice hv; have HV3 := Lib.hid (Kd.V_mono (ok' := fun k => (fun k => W.heap.size < k ∧ k ≠ w1.heap.size) k ∧ k ≠ w2.heap.size) hv (fun k hk => (by have h1 := HZ1.out; have h2 := HZ2.out; have h12 := HL12.out; simp at hk; refine ⟨⟨?_, ?_⟩, ?_⟩ <;> omega))); have HV2b := Lib.hid (vN.bu (ok := fun k => (fun k => W.heap.size < k ∧ k ≠ w1.heap.size) k ∧ k < w2.heap.size) (Kd.V_alloc HV2.out nd0) hb (fun k hk => Nat.ne_of_gt (Nat.lt_trans HG.out hk.1.1))); clear hv; have HN2 := Lib.hid (hb.blk (k := w2.heap.size) (o := nd0) (blk_new _ _) (Nat.ne_of_gt (Nat.lt_trans HG.out HZ2.out))); have HP3 := Lib.hid hp; have HB3 := Lib.hid (Bu.trans (g := g) (a := W.alloc nd0) (Uq23 HB2.out) hb); have BK3 := Lib.hid (hb.blk (k := W.heap.size) (o := nd0) (Uq24 BK2.out) (Nat.ne_of_gt HG.out)); have BA3 := Lib.hid (hb.blk (k := w1.heap.size) (o := ndO a' (.slice AA a'.f4.length kk)) (Uq24 BA2.out) (Nat.ne_of_gt (Nat.lt_trans HG.out HZ1.out))); clear hp hb; (try clear c0 c1 c2 c3 c4 c5 c6 c7 c8 c9 z0 z1 z2 z3 z4 z5 z6 z7 z8 z9); (try clear a0 a1 a2 a3 a4 a5 a6 a7 a8 a9 x0 x1 x2 x3 x4 x5 x6 x7 x8 x9 hsa); obtain ⟨⟨c0, c1, c2, c3, c4, c5, c6, c7, c8, c9⟩, z0, z1, z2, z3, z4, z5, z6, z7, z8, z9⟩ := z10 BK3.out; obtain ⟨⟨a0, a1, a2, a3, a4, a5, a6, a7, a8, a9⟩, x0, x1, x2, x3, x4, x5, x6, x7, x8, x9⟩ := z10 BA3.out; have hsa := blk_lt BA3.out; obtain ⟨⟨b0, b1, b2, b3, b4, b5, b6, b7, b8, b9⟩, y0, y1, y2, y3, y4, y5, y6, y7, y8, y9⟩ := z10 HN2.out; have hsb := blk_lt HN2.out; have HSB := Lib.hid hsb; have hs12 : w1.heap.size < w2.heap.size := HL12.out; have hs02 : W.heap.size < w2.heap.size := HZ2.out) | (go_at_call 76; (with_reducible refine (two_calls (fun k => W.heap.size < k ∧ k ≠ w1.heap.size) _ a' b (.slice AA a'.f4.length kk) (.slice AA3 b.f4.length kk3) _ ?sk ?sa ?sb).mono ?_); (case sk => exact (fun k hk => (by have h1 := HZ1.out; have h2 := HZ2.out; have h12 := HL12.out; have h3 := HSB.out; simp [World.setCell] at hk; refine ⟨?_, ?_⟩ <;> omega))); (case sa => exact Kd.V_mono (put10_vN HV2b.out (fun k hk => Nat.ne_of_lt hk.2) _ _ _ _ _ _ _ _ _ _) (fun k hk => hk.1)); (case sb => exact Kd.V_mono (put10_vN HV3.out (fun k hk => hk.2) _ _ _ _ _ _ _ _ _ _) (fun k hk => hk.1)); rintro e w4 ⟨v4, rfl, hv, hbl⟩; obtain ⟨AA4, kk4, rfl⟩ := Kd.V_slice hv; have HV4 := Lib.hid hv; clear hv; have hb := Bu.of_below (g := g) hbl; have hp := PS.below (g := g) (toks := toks) (en := en) (at_ := (n3 : Int)) (Uq25 HP3.out) hbl; clear hbl; have HP4 := Lib.hid hp; have HB4 := Lib.hid (Bu.trans (g := g) (a := W.alloc nd0) (Uq23 HB3.out) hb); have BK4 := Lib.hid (hb.blk (k := W.heap.size) (o := nd0) (Uq24 BK3.out) (Nat.ne_of_gt HG.out)); have BA4 := Lib.hid (hb.blk (k := w1.heap.size) (o := ndO a' (.slice AA a'.f4.length kk)) (Uq24 BA3.out) (Nat.ne_of_gt (Nat.lt_trans HG.out HZ1.out))); clear hp hb; (try clear c0 c1 c2 c3 c4 c5 c6 c7 c8 c9 z0 z1 z2 z3 z4 z5 z6 z7 z8 z9); (try clear a0 a1 a2 a3 a4 a5 a6 a7 a8 a9 x0 x1 x2 x3 x4 x5 x6 x7 x8 x9 hsa); obtain ⟨⟨c0, c1, c2, c3, c4, c5, c6, c7, c8, c9⟩, z0, z1, z2, z3, z4, z5, z6, z7, z8, z9⟩ := z10 BK4.out; obtain ⟨⟨a0, a1, a2, a3, a4, a5, a6, a7, a8, a9⟩, x0, x1, x2, x3, x4, x5, x6, x7, x8, x9⟩ := z10 BA4.out; have hsa := blk_lt BA4.out))
        go_roundw
        case rel => exact Or.inl ⟨twoT s a' b, n3, AA4, kk4, rfl, HR.out, (Uq25 HP4.out), (Uq23 HB4.out), (Uq24 BK4.out), put10_blk BA4.out _ _ _ _ _ _ _ _ _ _, put10_vN HV4.out (fun k hk => hk.2) _ _ _ _ _ _ _ _ _ _⟩
        case measure => exact mu_more HPr.out HLS.out HLT.out _ (Uq25 HP4.out)
    · have HP2 := Lib.hid hp
      have HB2 := Lib.hid hb
      have BK2 := Lib.hid hbk
      have HE := Lib.hid he
      have HQ := Lib.hid hq
      obtain ⟨⟨c0, c1, c2, c3, c4, c5, c6, c7, c8, c9⟩, z0, z1, z2, z3, z4, z5, z6, z7, z8, z9⟩ := z10 BK2.out
      clear hp hb hbk he hq
      go_wp2
      refine bodyPost_ret (results_ct rfl _ _ W.heap.size 31 _ (0, 0) _ rfl (Uq4 BK2.out) hu rfl (by kernel_rfl)) rfl ?_
      refine ⟨?_, ?_, q, ?_, ?_, Nat.le_of_lt HQ.out⟩
      · exact (Uq25 HP2.out)
      · exact (Uq27 HB2.out)
      · rfl
      · exact (Uq7 HE.out)
set_option maxHeartbeats 8000000 in
set_option maxRecDepth 100000 in
theorem row_power_bad (toks : List Tok) (en i : Int) (n n1 : Nat) (l : List ByteArray) (hl : l.length ≤ 1000) (hlen : toks.length ≤ 1000000) (g qs : Nat) (W : World) (hp : PS g toks en (n : Int) W) (hqs : W.heap[qs]? = some (.cells (l.map Value.string).toArray 9 (0, 0))) (hgs : qs ≠ g) (p c : Int) (hf : Does 109 toks en i n (.bad p c, n1)) :
    Calls Tryz.prog 92 #[ptr g, .int .i64 i, .func (.func 109) #[ptr g] #[], .slice (some ⟨qs, 0, none⟩) l.length l.length] W fun e W' => PS g toks en (((PR.bad p c, n1) : PR × Nat).2 : Int) W' ∧ Bu g W W' ∧ Ret W.heap.size ((PR.bad p c, n1) : PR × Nat).1 W' e := by
  have hu := Tryz.underlying31
  have HG := Lib.hid hp.lt
  have HP0 := Lib.hid (hp.alloc nd0)
  have HB0 := Lib.hid (Bu.refl g (W.alloc nd0))
  have BK0 := Lib.hid (blk_new W nd0)
  have HPW := Lib.hid hp
  have HF := Lib.hid hf
  have HLEN := Lib.hid hlen
  have HL := Lib.hid hl
  have HQS := Lib.hid hqs
  have HGS := Lib.hid hgs
  clear hp hf hlen hl hqs hgs
  go_enter Tryz.func92, Tryz.ntmps92
  go_wp2_with (first | (go_at_call 109; (with_reducible refine (HF.out.bad g _ ?sp).mono ?_); (case sp => exact HP0.out); rintro e w1 ⟨hp, hb, q, rfl, he, hq⟩; have HE := Lib.hid he; have HQ := Lib.hid (lo (g := g) (o := nd0) (W := W) (Uq23 HB0.out) hq); clear he hq; have HP1 := Lib.hid hp; have HB1 := Lib.hid (Bu.trans (g := g) (a := W.alloc nd0) (Uq23 HB0.out) hb); have BK1 := Lib.hid (hb.blk (k := W.heap.size) (o := nd0) (Uq24 BK0.out) (Nat.ne_of_gt HG.out)); clear hp hb; (try clear c0 c1 c2 c3 c4 c5 c6 c7 c8 c9 z0 z1 z2 z3 z4 z5 z6 z7 z8 z9); (try clear a0 a1 a2 a3 a4 a5 a6 a7 a8 a9 x0 x1 x2 x3 x4 x5 x6 x7 x8 x9 hsa); obtain ⟨⟨c0, c1, c2, c3, c4, c5, c6, c7, c8, c9⟩, z0, z1, z2, z3, z4, z5, z6, z7, z8, z9⟩ := z10 BK1.out; have HZ1 := Lib.hid (blk_lt BK1.out)))
  go_loopw [11] (RowE g W p c n1 toks en) (fun _ _ => 0)
  case atStart => exact ⟨q, rfl, HP1.out.alloc _, HB1.out.to_alloc _, blk_alloc BK1.out _, blk_alloc HE.out _, HQ.out⟩
  case round =>
    clear HF HP0 HP1 HB1 BK1 HE HQ
    obtain ⟨q, rfl, hp, hb, hbk, he, hq⟩ := hrel
    have HP2 := Lib.hid hp
    have HB2 := Lib.hid hb
    have BK2 := Lib.hid hbk
    have HE := Lib.hid he
    have HQ := Lib.hid hq
    (try clear c0 c1 c2 c3 c4 c5 c6 c7 c8 c9 z0 z1 z2 z3 z4 z5 z6 z7 z8 z9)
    obtain ⟨⟨c0, c1, c2, c3, c4, c5, c6, c7, c8, c9⟩, z0, z1, z2, z3, z4, z5, z6, z7, z8, z9⟩ := z10 BK2.out
    clear hp hb hbk he hq
    go_wp2
    refine bodyPost_ret (results_ct rfl _ _ W.heap.size 31 _ (0, 0) _ rfl (Uq4 BK2.out) hu rfl (by kernel_rfl)) rfl ?_
    refine ⟨?_, ?_, q, ?_, ?_, Nat.le_of_lt HQ.out⟩
    · exact (Uq25 HP2.out)
    · exact (Uq27 HB2.out)
    · rfl
    · exact (Uq7 HE.out)
end Go.Proofs.YtnomfbmebafolaaGreatDoor.P

namespace Go.Proofs.YtnomfbmebafolaaGreatDoor.P
open Go.RowKit Go.Proofs.YtnomfbmebafolaaGreatDoorW.PrintWords Go.Proofs.YtnomfbmebafolaaGreatDoorW.PrintLast Go.Proofs.YtnomfbmebafolaaGreatDoorW.PrintMore
open M (I64)
set_option linter.unusedVariables false
set_option linter.unusedSimpArgs false
theorem blk_at (W : World) (o : Obj) (n : Nat) (h : n = W.heap.size) : (W.alloc o).heap[n]? = some o := by subst h; exact blk_new W o
set_option maxHeartbeats 4000000 in
set_option maxRecDepth 100000 in
theorem sum_okok (toks : List Tok) (en i : Int) (n : Nat) (hlen : toks.length ≤ 1000000) (n1 : Nat) (a : TN) (hf : Does 93 toks en i n (.ok a, n1)) (t : TN) (n2 : Nat) (hr : RowR 93 toks en i [⟨#[43]⟩, ⟨#[45]⟩, ⟨#[38]⟩] a n1 (.ok t, n2)) : Does 74 toks en i n (.ok t, n2) := by
  intro g W hp
  have hu := Tryz.underlying31
  have hgW := hp.lt
  have HG := Lib.hid hp.lt
  have HPW := Lib.hid hp
  have HLEN := Lib.hid hlen
  have HF := Lib.hid hf
  have HR := Lib.hid hr
  clear hr
  clear hp hlen hf
  go_enter Tryz.func74, Tryz.ntmps74
  go_wp2_with (first | (go_at_call 92; (refine (row_product_ok toks en i n n1 [⟨#[43]⟩, ⟨#[45]⟩, ⟨#[38]⟩] (by decide) HLEN.out g _ _ ?sp ?sq ?sg a _ HF.out HR.out).mono ?_); (case sp => exact PS.alloc (PS.alloc HPW.out _) _); (case sq => exact blk_at _ _ _ (by simp)); (case sg => (simp; omega)); rintro e w1 ⟨hp, hb, hret⟩; have hb_ := Bu.trans (g := g) (a := W.alloc nd0) (Bu.alloc g (W.alloc nd0) _) hb; have BK1 := Lib.hid (hb_.blk (k := W.heap.size) (o := nd0) (blk_new W nd0) (Nat.ne_of_gt HG.out)); have HP1 := Lib.hid hp; have HB1 := Lib.hid hb_; obtain ⟨v9, rfl, hv⟩ := hret; obtain ⟨A9, k9, rfl⟩ := Kd.V_slice hv; have HV := Lib.hid hv; clear hp hb hb_ hv; obtain ⟨⟨c0, c1, c2, c3, c4, c5, c6, c7, c8, c9⟩, z0, z1, z2, z3, z4, z5, z6, z7, z8, z9⟩ := z10 BK1.out))
  refine bodyPost_ret (results_ct rfl _ _ W.heap.size 31 _ (0, 0) _ rfl (by with_reducible repeat (first | exact put10_blk BK1.out _ _ _ _ _ _ _ _ _ _ | refine blk_alloc ?_ _)) hu rfl (by kernel_rfl)) rfl ?_
  refine ⟨?_, ?_, .slice A9 t.f4.length k9, ?_, ?_⟩
  · exact put10_ps HP1.out HG.out _ _ _ _ _ _ _ _ _ _
  · exact put10_bu ((Bu.alloc g W nd0).trans HB1.out) (Nat.le_refl _) _ _ _ _ _ _ _ _ _ _
  · rfl
  · exact Kd.V_mono (put10_vN (ok := fun k => W.heap.size < k) (Kd.V_mono HV.out (fun k hk => (by simp at hk; omega))) (fun k hk => Nat.ne_of_gt hk) _ _ _ _ _ _ _ _ _ _) (fun k hk => Nat.le_of_lt hk)
set_option maxHeartbeats 4000000 in
set_option maxRecDepth 100000 in
theorem sum_okbad (toks : List Tok) (en i : Int) (n : Nat) (hlen : toks.length ≤ 1000000) (n1 : Nat) (a : TN) (hf : Does 93 toks en i n (.ok a, n1)) (p c : Int) (n2 : Nat) (hr : RowR 93 toks en i [⟨#[43]⟩, ⟨#[45]⟩, ⟨#[38]⟩] a n1 (.bad p c, n2)) : Does 74 toks en i n (.bad p c, n2) := by
  intro g W hp
  have hu := Tryz.underlying31
  have hgW := hp.lt
  have HG := Lib.hid hp.lt
  have HPW := Lib.hid hp
  have HLEN := Lib.hid hlen
  have HF := Lib.hid hf
  have HR := Lib.hid hr
  clear hr
  clear hp hlen hf
  go_enter Tryz.func74, Tryz.ntmps74
  go_wp2_with (first | (go_at_call 92; (refine (row_product_ok toks en i n n1 [⟨#[43]⟩, ⟨#[45]⟩, ⟨#[38]⟩] (by decide) HLEN.out g _ _ ?sp ?sq ?sg a _ HF.out HR.out).mono ?_); (case sp => exact PS.alloc (PS.alloc HPW.out _) _); (case sq => exact blk_at _ _ _ (by simp)); (case sg => (simp; omega)); rintro e w1 ⟨hp, hb, hret⟩; have hb_ := Bu.trans (g := g) (a := W.alloc nd0) (Bu.alloc g (W.alloc nd0) _) hb; have BK1 := Lib.hid (hb_.blk (k := W.heap.size) (o := nd0) (blk_new W nd0) (Nat.ne_of_gt HG.out)); have HP1 := Lib.hid hp; have HB1 := Lib.hid hb_; obtain ⟨q, rfl, he, hq⟩ := hret; have HE := Lib.hid he; have HQ := Lib.hid (show W.heap.size < q from (by simp at hq; omega)); clear hp hb hb_ he hq; obtain ⟨⟨c0, c1, c2, c3, c4, c5, c6, c7, c8, c9⟩, z0, z1, z2, z3, z4, z5, z6, z7, z8, z9⟩ := z10 BK1.out))
  refine bodyPost_ret (results_ct rfl _ _ W.heap.size 31 _ (0, 0) _ rfl (by with_reducible repeat (first | exact put10_blk BK1.out _ _ _ _ _ _ _ _ _ _ | refine blk_alloc ?_ _)) hu rfl (by kernel_rfl)) rfl ?_
  refine ⟨?_, ?_, q, ?_, ?_, Nat.le_of_lt HQ.out⟩
  · exact put10_ps HP1.out HG.out _ _ _ _ _ _ _ _ _ _
  · exact put10_bu ((Bu.alloc g W nd0).trans HB1.out) (Nat.le_refl _) _ _ _ _ _ _ _ _ _ _
  · rfl
  · exact (put10_old (Nat.ne_of_gt HQ.out) _ _ _ _ _ _ _ _ _ _).trans HE.out
set_option maxHeartbeats 4000000 in
set_option maxRecDepth 100000 in
theorem sum_bad (toks : List Tok) (en i : Int) (n : Nat) (hlen : toks.length ≤ 1000000) (n1 : Nat) (p c : Int) (hf : Does 93 toks en i n (.bad p c, n1)) : Does 74 toks en i n (.bad p c, n1) := by
  intro g W hp
  have hu := Tryz.underlying31
  have hgW := hp.lt
  have HG := Lib.hid hp.lt
  have HPW := Lib.hid hp
  have HLEN := Lib.hid hlen
  have HF := Lib.hid hf
  clear hp hlen hf
  go_enter Tryz.func74, Tryz.ntmps74
  go_wp2_with (first | (go_at_call 92; (refine (row_product_bad toks en i n n1 [⟨#[43]⟩, ⟨#[45]⟩, ⟨#[38]⟩] (by decide) HLEN.out g _ _ ?sp ?sq ?sg p c HF.out).mono ?_); (case sp => exact PS.alloc (PS.alloc HPW.out _) _); (case sq => exact blk_at _ _ _ (by simp)); (case sg => (simp; omega)); rintro e w1 ⟨hp, hb, hret⟩; have hb_ := Bu.trans (g := g) (a := W.alloc nd0) (Bu.alloc g (W.alloc nd0) _) hb; have BK1 := Lib.hid (hb_.blk (k := W.heap.size) (o := nd0) (blk_new W nd0) (Nat.ne_of_gt HG.out)); have HP1 := Lib.hid hp; have HB1 := Lib.hid hb_; obtain ⟨q, rfl, he, hq⟩ := hret; have HE := Lib.hid he; have HQ := Lib.hid (show W.heap.size < q from (by simp at hq; omega)); clear hp hb hb_ he hq; obtain ⟨⟨c0, c1, c2, c3, c4, c5, c6, c7, c8, c9⟩, z0, z1, z2, z3, z4, z5, z6, z7, z8, z9⟩ := z10 BK1.out))
  refine bodyPost_ret (results_ct rfl _ _ W.heap.size 31 _ (0, 0) _ rfl (by with_reducible repeat (first | exact put10_blk BK1.out _ _ _ _ _ _ _ _ _ _ | refine blk_alloc ?_ _)) hu rfl (by kernel_rfl)) rfl ?_
  refine ⟨?_, ?_, q, ?_, ?_, Nat.le_of_lt HQ.out⟩
  · exact put10_ps HP1.out HG.out _ _ _ _ _ _ _ _ _ _
  · exact put10_bu ((Bu.alloc g W nd0).trans HB1.out) (Nat.le_refl _) _ _ _ _ _ _ _ _ _ _
  · rfl
  · exact (put10_old (Nat.ne_of_gt HQ.out) _ _ _ _ _ _ _ _ _ _).trans HE.out
theorem sum_ok (toks : List Tok) (en i : Int) (n : Nat) (hlen : toks.length ≤ 1000000) (n1 : Nat) (a : TN) (hf : Does 93 toks en i n (.ok a, n1)) (r : PR × Nat) (hr : RowR 93 toks en i [⟨#[43]⟩, ⟨#[45]⟩, ⟨#[38]⟩] a n1 r) : Does 74 toks en i n r := by
  obtain ⟨ra, rn⟩ := r
  cases ra with
  | ok t => exact sum_okok toks en i n hlen n1 a hf t rn hr
  | bad p c => exact sum_okbad toks en i n hlen n1 a hf p c rn hr
set_option maxHeartbeats 4000000 in
set_option maxRecDepth 100000 in
theorem product_okok (toks : List Tok) (en i : Int) (n : Nat) (hlen : toks.length ≤ 1000000) (n1 : Nat) (a : TN) (hf : Does 109 toks en i n (.ok a, n1)) (t : TN) (n2 : Nat) (hr : RowR 109 toks en i [⟨#[42]⟩, ⟨#[47]⟩, ⟨#[37]⟩] a n1 (.ok t, n2)) : Does 93 toks en i n (.ok t, n2) := by
  intro g W hp
  have hu := Tryz.underlying31
  have hgW := hp.lt
  have HG := Lib.hid hp.lt
  have HPW := Lib.hid hp
  have HLEN := Lib.hid hlen
  have HF := Lib.hid hf
  have HR := Lib.hid hr
  clear hr
  clear hp hlen hf
  go_enter Tryz.func93, Tryz.ntmps93
  go_wp2_with (first | (go_at_call 92; (refine (row_power_ok toks en i n n1 [⟨#[42]⟩, ⟨#[47]⟩, ⟨#[37]⟩] (by decide) HLEN.out g _ _ ?sp ?sq ?sg a _ HF.out HR.out).mono ?_); (case sp => exact PS.alloc (PS.alloc HPW.out _) _); (case sq => exact blk_at _ _ _ (by simp)); (case sg => (simp; omega)); rintro e w1 ⟨hp, hb, hret⟩; have hb_ := Bu.trans (g := g) (a := W.alloc nd0) (Bu.alloc g (W.alloc nd0) _) hb; have BK1 := Lib.hid (hb_.blk (k := W.heap.size) (o := nd0) (blk_new W nd0) (Nat.ne_of_gt HG.out)); have HP1 := Lib.hid hp; have HB1 := Lib.hid hb_; obtain ⟨v9, rfl, hv⟩ := hret; obtain ⟨A9, k9, rfl⟩ := Kd.V_slice hv; have HV := Lib.hid hv; clear hp hb hb_ hv; obtain ⟨⟨c0, c1, c2, c3, c4, c5, c6, c7, c8, c9⟩, z0, z1, z2, z3, z4, z5, z6, z7, z8, z9⟩ := z10 BK1.out))
  refine bodyPost_ret (results_ct rfl _ _ W.heap.size 31 _ (0, 0) _ rfl (by with_reducible repeat (first | exact put10_blk BK1.out _ _ _ _ _ _ _ _ _ _ | refine blk_alloc ?_ _)) hu rfl (by kernel_rfl)) rfl ?_
  refine ⟨?_, ?_, .slice A9 t.f4.length k9, ?_, ?_⟩
  · exact put10_ps HP1.out HG.out _ _ _ _ _ _ _ _ _ _
  · exact put10_bu ((Bu.alloc g W nd0).trans HB1.out) (Nat.le_refl _) _ _ _ _ _ _ _ _ _ _
  · rfl
  · exact Kd.V_mono (put10_vN (ok := fun k => W.heap.size < k) (Kd.V_mono HV.out (fun k hk => (by simp at hk; omega))) (fun k hk => Nat.ne_of_gt hk) _ _ _ _ _ _ _ _ _ _) (fun k hk => Nat.le_of_lt hk)
set_option maxHeartbeats 4000000 in
set_option maxRecDepth 100000 in
theorem product_okbad (toks : List Tok) (en i : Int) (n : Nat) (hlen : toks.length ≤ 1000000) (n1 : Nat) (a : TN) (hf : Does 109 toks en i n (.ok a, n1)) (p c : Int) (n2 : Nat) (hr : RowR 109 toks en i [⟨#[42]⟩, ⟨#[47]⟩, ⟨#[37]⟩] a n1 (.bad p c, n2)) : Does 93 toks en i n (.bad p c, n2) := by
  intro g W hp
  have hu := Tryz.underlying31
  have hgW := hp.lt
  have HG := Lib.hid hp.lt
  have HPW := Lib.hid hp
  have HLEN := Lib.hid hlen
  have HF := Lib.hid hf
  have HR := Lib.hid hr
  clear hr
  clear hp hlen hf
  go_enter Tryz.func93, Tryz.ntmps93
  go_wp2_with (first | (go_at_call 92; (refine (row_power_ok toks en i n n1 [⟨#[42]⟩, ⟨#[47]⟩, ⟨#[37]⟩] (by decide) HLEN.out g _ _ ?sp ?sq ?sg a _ HF.out HR.out).mono ?_); (case sp => exact PS.alloc (PS.alloc HPW.out _) _); (case sq => exact blk_at _ _ _ (by simp)); (case sg => (simp; omega)); rintro e w1 ⟨hp, hb, hret⟩; have hb_ := Bu.trans (g := g) (a := W.alloc nd0) (Bu.alloc g (W.alloc nd0) _) hb; have BK1 := Lib.hid (hb_.blk (k := W.heap.size) (o := nd0) (blk_new W nd0) (Nat.ne_of_gt HG.out)); have HP1 := Lib.hid hp; have HB1 := Lib.hid hb_; obtain ⟨q, rfl, he, hq⟩ := hret; have HE := Lib.hid he; have HQ := Lib.hid (show W.heap.size < q from (by simp at hq; omega)); clear hp hb hb_ he hq; obtain ⟨⟨c0, c1, c2, c3, c4, c5, c6, c7, c8, c9⟩, z0, z1, z2, z3, z4, z5, z6, z7, z8, z9⟩ := z10 BK1.out))
  refine bodyPost_ret (results_ct rfl _ _ W.heap.size 31 _ (0, 0) _ rfl (by with_reducible repeat (first | exact put10_blk BK1.out _ _ _ _ _ _ _ _ _ _ | refine blk_alloc ?_ _)) hu rfl (by kernel_rfl)) rfl ?_
  refine ⟨?_, ?_, q, ?_, ?_, Nat.le_of_lt HQ.out⟩
  · exact put10_ps HP1.out HG.out _ _ _ _ _ _ _ _ _ _
  · exact put10_bu ((Bu.alloc g W nd0).trans HB1.out) (Nat.le_refl _) _ _ _ _ _ _ _ _ _ _
  · rfl
  · exact (put10_old (Nat.ne_of_gt HQ.out) _ _ _ _ _ _ _ _ _ _).trans HE.out
set_option maxHeartbeats 4000000 in
set_option maxRecDepth 100000 in
theorem product_bad (toks : List Tok) (en i : Int) (n : Nat) (hlen : toks.length ≤ 1000000) (n1 : Nat) (p c : Int) (hf : Does 109 toks en i n (.bad p c, n1)) : Does 93 toks en i n (.bad p c, n1) := by
  intro g W hp
  have hu := Tryz.underlying31
  have hgW := hp.lt
  have HG := Lib.hid hp.lt
  have HPW := Lib.hid hp
  have HLEN := Lib.hid hlen
  have HF := Lib.hid hf
  clear hp hlen hf
  go_enter Tryz.func93, Tryz.ntmps93
  go_wp2_with (first | (go_at_call 92; (refine (row_power_bad toks en i n n1 [⟨#[42]⟩, ⟨#[47]⟩, ⟨#[37]⟩] (by decide) HLEN.out g _ _ ?sp ?sq ?sg p c HF.out).mono ?_); (case sp => exact PS.alloc (PS.alloc HPW.out _) _); (case sq => exact blk_at _ _ _ (by simp)); (case sg => (simp; omega)); rintro e w1 ⟨hp, hb, hret⟩; have hb_ := Bu.trans (g := g) (a := W.alloc nd0) (Bu.alloc g (W.alloc nd0) _) hb; have BK1 := Lib.hid (hb_.blk (k := W.heap.size) (o := nd0) (blk_new W nd0) (Nat.ne_of_gt HG.out)); have HP1 := Lib.hid hp; have HB1 := Lib.hid hb_; obtain ⟨q, rfl, he, hq⟩ := hret; have HE := Lib.hid he; have HQ := Lib.hid (show W.heap.size < q from (by simp at hq; omega)); clear hp hb hb_ he hq; obtain ⟨⟨c0, c1, c2, c3, c4, c5, c6, c7, c8, c9⟩, z0, z1, z2, z3, z4, z5, z6, z7, z8, z9⟩ := z10 BK1.out))
  refine bodyPost_ret (results_ct rfl _ _ W.heap.size 31 _ (0, 0) _ rfl (by with_reducible repeat (first | exact put10_blk BK1.out _ _ _ _ _ _ _ _ _ _ | refine blk_alloc ?_ _)) hu rfl (by kernel_rfl)) rfl ?_
  refine ⟨?_, ?_, q, ?_, ?_, Nat.le_of_lt HQ.out⟩
  · exact put10_ps HP1.out HG.out _ _ _ _ _ _ _ _ _ _
  · exact put10_bu ((Bu.alloc g W nd0).trans HB1.out) (Nat.le_refl _) _ _ _ _ _ _ _ _ _ _
  · rfl
  · exact (put10_old (Nat.ne_of_gt HQ.out) _ _ _ _ _ _ _ _ _ _).trans HE.out
theorem product_ok (toks : List Tok) (en i : Int) (n : Nat) (hlen : toks.length ≤ 1000000) (n1 : Nat) (a : TN) (hf : Does 109 toks en i n (.ok a, n1)) (r : PR × Nat) (hr : RowR 109 toks en i [⟨#[42]⟩, ⟨#[47]⟩, ⟨#[37]⟩] a n1 r) : Does 93 toks en i n r := by
  obtain ⟨ra, rn⟩ := r
  cases ra with
  | ok t => exact product_okok toks en i n hlen n1 a hf t rn hr
  | bad p c => exact product_okbad toks en i n hlen n1 a hf p c rn hr
end Go.Proofs.YtnomfbmebafolaaGreatDoor.P

namespace Go.Proofs.YtnomfbmebafolaaGreatDoor.P
open Go.RowKit Go.Proofs.YtnomfbmebafolaaGreatDoorW.PrintWords Go.Proofs.YtnomfbmebafolaaGreatDoorW.PrintLast Go.Proofs.YtnomfbmebafolaaGreatDoorW.PrintMore
open M (I64)
set_option linter.unusedVariables false
set_option linter.unusedSimpArgs false
abbrev fO (s : ByteArray) (v9 : Value) : Obj := .cells #[.int .i64 6, .int .i64 0, .int .i64 0, .string (⟨#[]⟩ : ByteArray), .int .i64 0, .int .i64 0, .int .i64 0, .int .i64 0, .string s, v9] 31 (0, 0)
inductive CallR (toks : List Tok) (en i : Int) (s : ByteArray) : List TN → Nat → PR × Nat → Prop where
  | full {l : List TN} {n : Nat} (hl : l.length = 10) (hn : n ≤ toks.length) : CallR toks en i s l n (.bad (placeV toks en n) 13, n)
  | bad {l : List TN} {n : Nat} (hl : l.length < 10) (p c : Int) (n1 : Nat) (hf : Does 51 toks en (i + 1) n (.bad p c, n1)) : CallR toks en i s l n (.bad p c, n1)
  | more {l : List TN} {n : Nat} {r : PR × Nat} (hl : l.length < 10) (a : TN) (n1 : Nat) (hf : Does 51 toks en (i + 1) n (.ok a, n1)) (hn1 : n1 ≤ toks.length) (hlt : n < n1) (s1 : ByteArray) (n2 : Nat) (hs : signV toks n1 [⟨#[44]⟩] = (s1, true, n2)) (hn2 : n2 ≤ toks.length) (h : CallR toks en i s (l ++ [a]) n2 r) : CallR toks en i s l n r
  | done {l : List TN} {n : Nat} (hl : l.length < 10) (a : TN) (n1 : Nat) (hf : Does 51 toks en (i + 1) n (.ok a, n1)) (hn1 : n1 ≤ toks.length) (s1 : ByteArray) (n2 : Nat) (hs : signV toks n1 [⟨#[44]⟩] = (s1, false, n2)) (hn2 : n2 ≤ toks.length) (s2 : ByteArray) (n3 : Nat) (hs2 : signV toks n2 [⟨#[41]⟩] = (s2, true, n3)) : CallR toks en i s l n (.ok (callT s (l ++ [a])), n3)
  | open_ {l : List TN} {n : Nat} (hl : l.length < 10) (a : TN) (n1 : Nat) (hf : Does 51 toks en (i + 1) n (.ok a, n1)) (hn1 : n1 ≤ toks.length) (s1 : ByteArray) (n2 : Nat) (hs : signV toks n1 [⟨#[44]⟩] = (s1, false, n2)) (hn2 : n2 ≤ toks.length) (s2 : ByteArray) (n3 : Nat) (hs2 : signV toks n2 [⟨#[41]⟩] = (s2, false, n3)) (hn3 : n3 ≤ toks.length) : CallR toks en i s l n (.bad (placeV toks en n3) 13, n3)
theorem PS.put2 {g : Nat} {toks : List Tok} {en : Int} {n : Nat} {W : World} (h : PS g toks en (n : Int) W) : PS g toks en ((n + 2 : Nat) : Int) (W.setCell ⟨g, 1, none⟩ (.int .i64 ((n : Int) + 2))) := by
  have := PS.put h ((n : Int) + 2)
  rw [show ((n + 2 : Nat) : Int) = (n : Int) + 2 by omega]
  exact this
theorem PS.set9 {g f : Nat} {toks : List Tok} {en at_ : Int} {W : World} (h : PS g toks en at_ W) (hf : g < f) (j : Nat) (u : Value) : PS g toks en at_ (W.setCell ⟨f, j, none⟩ u) := by
  obtain ⟨A, c, h1, h2, gw, h3, h4, h5⟩ := h
  have old : ∀ k, k < f → (W.setCell ⟨f, j, none⟩ u).heap[k]? = W.heap[k]? := fun k hk => Below.heap_setCell W ⟨f, j, none⟩ u k (by show k ≠ f; omega)
  exact ⟨A, c, (old g hf).trans h1, Kd.F_step h2 (fun k hk _ => old k (by omega)), gw, h3, ⟨h4.os, h4.tape, h4.output, by simpa [World.setCell] using h4.size, fun k hk => (old k (by omega)).trans (h4.block k hk)⟩, h5⟩
theorem Bu.set9 {g : Nat} {W0 W : World} (h : Bu g (W0.alloc nd0) W) (j : Nat) (u : Value) : Bu g (W0.alloc nd0) (W.setCell ⟨W0.heap.size + 1, j, none⟩ u) :=
  ⟨h.os, h.tape, h.output, by simpa [World.setCell] using h.size, fun k hk hg => (Below.heap_setCell W ⟨W0.heap.size + 1, j, none⟩ u k (by show k ≠ W0.heap.size + 1; simp at hk; omega)).trans (h.block k hk hg)⟩
theorem PS.grown {g : Nat} {toks : List Tok} {en at_ : Int} {W W1 : World} {row : Option Nat} (h : PS g toks en at_ W) (hg : W.grownBy W1 row) (hr : ∀ k, row = some k → g < k) : PS g toks en at_ W1 := by
  obtain ⟨A, c, h1, h2, gw, h3, h4, h5⟩ := h
  have old : ∀ k, k < W.heap.size → k ≤ g → W1.heap[k]? = W.heap[k]? := fun k hk hkg => hg.block k hk (fun e => by have := hr k e.symm; omega)
  exact ⟨A, c, (old g (blk_lt h1) (Nat.le_refl _)).trans h1, Kd.F_step h2 (fun k hk hlt => old k hlt (by omega)), gw, h3, ⟨hg.os.trans h4.os, hg.tape.trans h4.tape, hg.output.trans h4.output, Nat.le_trans h4.size hg.size, fun k hk => (old k (Nat.lt_of_lt_of_le hk h4.size) (by omega)).trans (h4.block k hk)⟩, h5⟩
theorem Bu.grown {g : Nat} {W0 W W1 : World} {row : Option Nat} (h : Bu g W0 W) (hg : W.grownBy W1 row) (hr : ∀ k, row = some k → W0.heap.size ≤ k) : Bu g W0 W1 :=
  ⟨hg.os.trans h.os, hg.tape.trans h.tape, hg.output.trans h.output, Nat.le_trans h.size hg.size, fun k hk hkg => (hg.block k (Nat.lt_of_lt_of_le hk h.size) (fun e => by have := hr k e.symm; omega)).trans (h.block k hk hkg)⟩
abbrev kN (B : Nat) (w : World) (v : Value) (l : List TN) : Prop := Kd.N k31 31 w B (fun k => B < k) v l
def argsOf (f : Nat) (w : World) : Nat := match w.cell? ⟨f, 9, none⟩ with | some (.slice _ n _) => n | _ => 0
def CallS (toks : List Tok) (en i : Int) (s : ByteArray) (g : Nat) (W : World) (r : PR × Nat) (wr : World) : Prop :=
  ∃ l n v9, CallR toks en i s l n r ∧ PS g toks en (n : Int) wr ∧ Bu g (W.alloc nd0) wr ∧ wr.heap[W.heap.size]? = some nd0 ∧ wr.heap[W.heap.size + 1]? = some (fO s v9) ∧ kN (W.heap.size + 1) wr v9 l
theorem Uq28 {p q : Prop} (h0 : p) (h : p → q := by intro h_; with_reducible repeat (first | exact h_ | exact cw_ps HPW.out | refine PS.alloc ?_ _ | refine PS.set9 ?_ (Nat.lt_succ_of_lt HG.out) _ _ | refine put10_ps ?_ HG.out _ _ _ _ _ _ _ _ _ _)) : q := h h0
theorem Uq29 {p q : Prop} (h0 : p) (h : p → q := by intro h_; with_reducible repeat (first | exact h_ | exact Bu.refl _ _ | exact cw_bu _ _ _ _ | refine Bu.to_alloc ?_ _ | refine Bu.to_set ?_ _ _ | refine Bu.set9 ?_ _ _ | refine put10_bu ?_ (Nat.le_refl _) _ _ _ _ _ _ _ _ _ _)) : q := h h0
theorem Uq30 {p q : Prop} (h0 : p) (h : p → q := by intro h_; with_reducible repeat (first | exact h_ | exact cw_bk _ _ HG.out | exact blk_new _ _ | refine blk_alloc ?_ _ | refine blk_set ?_ (Nat.ne_of_gt HG.out) _ | refine blk_set ?_ (Nat.ne_of_lt (Nat.lt_succ_self _)) _ | refine (put10_old (Nat.ne_of_gt (Nat.lt_succ_self _)) _ _ _ _ _ _ _ _ _ _).trans ?_)) : q := h h0
theorem Uq31 {p q : Prop} (h0 : p) (h : p → q := by intro h_; with_reducible repeat (first | exact (Bu.alloc g W nd0).trans h_ | exact cw_bu _ _ _ _ | refine Bu.to_alloc ?_ _ | refine Bu.to_set ?_ _ _ | refine Bu.set9 ?_ _ _ | refine put10_bu ?_ (Nat.le_refl _) _ _ _ _ _ _ _ _ _ _)) : q := h h0
theorem Uq32 {p q : Prop} (h0 : p) (h : p → q := by intro h_; with_reducible repeat (first | exact h_ | refine blk_alloc ?_ _)) : q := h h0
theorem Uq33 {p q : Prop} (h0 : p) (h : p → q := by intro h_; with_reducible repeat (first | exact h_ | refine Kd.N_alloc ?_ _ | refine Kd.N_far ?_ (fun k hk => Nat.ne_of_gt hk) _)) : q := h h0
theorem Uq34 {p q : Prop} (h0 : p) (h : p → q := by intro h_; with_reducible repeat (first | exact fO_put h_ _ | refine blk_alloc ?_ _)) : q := h h0
set_option maxHeartbeats 8000000 in
set_option maxRecDepth 100000 in
theorem call_long (toks : List Tok) (en i : Int) (s : ByteArray) (n : Nat) (hlen : toks.length ≤ 1000000) (hn : n ≤ toks.length) (h8 : 8 < s.size) (hs8 : s.size ≤ 1000000) : DoesS 137 toks en i s n (.bad (placeV toks en n) 13, n) := by
  intro g W hp
  have hu := Tryz.underlying31
  have HG := Lib.hid hp.lt
  have HP0 := Lib.hid (hp.alloc nd0)
  have HB0 := Lib.hid (Bu.refl g (W.alloc nd0))
  have BK0 := Lib.hid (blk_new W nd0)
  have HPW := Lib.hid hp
  have HLEN := Lib.hid hlen
  have hq : decide ((8 : Int) < (s.size : Int)) = true := decide_eq_true (by omega)
  have hq0 : decide (8 < s.size) = true := decide_eq_true (by omega)
  have hq00 : (8 < s.size) = True := eq_true (by omega)
  have HN := Lib.hid hn
  clear hn
  clear h8 hs8
  clear hp hlen
  go_enter Tryz.func137, Tryz.ntmps137
  go_wp2_with (first | (go_at_call 52; (with_reducible refine (fail_calls g toks en n HN.out _ ?sp).mono ?_); (case sp => exact (Uq28 HP0.out)); rintro e w1 ⟨q, rfl, he, hq, hbl⟩; have HE := Lib.hid he; have HQ := Lib.hid (lo (g := g) (o := nd0) (W := W) (Uq29 HB0.out) hq); have hb := Bu.of_below (g := g) hbl; have hp := PS.below (g := g) (toks := toks) (en := en) (at_ := (n : Int)) (Uq28 HP0.out) hbl; clear he hq hbl; have HP1 := Lib.hid hp; have HB1 := Lib.hid (Bu.trans (g := g) (a := W.alloc nd0) (Uq29 HB0.out) hb); have BK1 := Lib.hid (hb.blk (k := W.heap.size) (o := nd0) (Uq30 BK0.out) (Nat.ne_of_gt HG.out)); clear hp hb; (try clear c0 c1 c2 c3 c4 c5 c6 c7 c8 c9 z0 z1 z2 z3 z4 z5 z6 z7 z8 z9); (try clear hsz); (try clear hsy); (try clear a0 a1 a2 a3 a4 a5 a6 a7 a8 a9 x0 x1 x2 x3 x4 x5 x6 x7 x8 x9); obtain ⟨⟨c0, c1, c2, c3, c4, c5, c6, c7, c8, c9⟩, z0, z1, z2, z3, z4, z5, z6, z7, z8, z9⟩ := z10 BK1.out; have hsy : W.heap.size < w1.heap.size := blk_lt BK1.out))
  refine bodyPost_ret (results_ct rfl _ _ W.heap.size 31 _ (0, 0) _ rfl (Uq4 BK1.out) hu rfl (by kernel_rfl)) rfl ?_
  refine ⟨?_, ?_, q, ?_, ?_, Nat.le_of_lt HQ.out⟩
  · exact (Uq28 HP1.out)
  · exact (Uq31 HB1.out)
  · rfl
  · exact (Uq7 HE.out)
abbrev cw (g : Nat) (n : Nat) (s : ByteArray) (W : World) : World := ((W.setCell ⟨g, 1, none⟩ (.int .i64 ((n : Int) + 2))).alloc nd0).alloc (fO s (.slice none 0 0))
theorem cw_ps {g : Nat} {toks : List Tok} {en : Int} {n : Nat} {s : ByteArray} {W : World} (h : PS g toks en (n : Int) W) : PS g toks en ((n + 2 : Nat) : Int) (cw g n s W) := (h.put2.alloc nd0).alloc _
theorem cw_size (g n : Nat) (s : ByteArray) (W : World) : (cw g n s W).heap.size = W.heap.size + 2 := by simp [World.setCell]
theorem cw_bu (g n : Nat) (s : ByteArray) (W : World) : Bu g (W.alloc nd0) (cw g n s W) := by
  refine ⟨rfl, rfl, rfl, by rw [cw_size]; simp, fun k hk hg => ?_⟩
  have hk' : k < W.heap.size + 1 := by simpa using hk
  have h1 : (cw g n s W).heap[k]? = ((W.setCell ⟨g, 1, none⟩ (.int .i64 ((n : Int) + 2))).alloc nd0).heap[k]? := blk_alloc_old _ _ (by simp [World.setCell]; exact hk')
  rw [h1]
  by_cases he : k = W.heap.size
  · subst he
    rw [blk_new W nd0]
    have := blk_new (W.setCell ⟨g, 1, none⟩ (.int .i64 ((n : Int) + 2))) nd0
    rw [show (W.setCell ⟨g, 1, none⟩ (.int .i64 ((n : Int) + 2))).heap.size = W.heap.size by simp [World.setCell]] at this
    exact this
  · rw [blk_alloc_old _ _ (by simp [World.setCell]; omega), blk_alloc_old _ _ (by omega)]
    exact Below.heap_setCell W ⟨g, 1, none⟩ _ k hg
theorem cw_bk {g : Nat} (n : Nat) (s : ByteArray) {W : World} (hg : g < W.heap.size) : (cw g n s W).heap[W.heap.size]? = some nd0 := by
  rw [(cw_bu g n s W).block W.heap.size (by simp) (by omega)]
  exact blk_new W nd0
theorem cw_bf (g n : Nat) (s : ByteArray) (W : World) : (cw g n s W).heap[W.heap.size + 1]? = some (fO s (.slice none 0 0)) := by
  have h := blk_new ((W.setCell ⟨g, 1, none⟩ (.int .i64 ((n : Int) + 2))).alloc nd0) (fO s (.slice none 0 0))
  rw [show ((W.setCell ⟨g, 1, none⟩ (.int .i64 ((n : Int) + 2))).alloc nd0).heap.size = W.heap.size + 1 by simp [World.setCell]] at h
  exact h
set_option maxHeartbeats 8000000 in
set_option maxRecDepth 100000 in
theorem call_none (toks : List Tok) (en i : Int) (s : ByteArray) (n : Nat) (hlen : toks.length ≤ 1000000) (h8 : ¬ 8 < s.size) (hn : n + 2 ≤ toks.length) (s1 : ByteArray) (n1 : Nat) (hs : signV toks (n + 2) [⟨#[41]⟩] = (s1, true, n1)) : DoesS 137 toks en i s n (.ok (callT s []), n1) := by
  intro g W hp
  have hu := Tryz.underlying31
  have HG := Lib.hid hp.lt
  have HP0 := Lib.hid (hp.alloc nd0)
  have HB0 := Lib.hid (Bu.refl g (W.alloc nd0))
  have BK0 := Lib.hid (blk_new W nd0)
  have HPW := Lib.hid hp
  have HLEN := Lib.hid hlen
  have w2 : IntKind.i64.wrap ((n : Int) + 2) = (n : Int) + 2 := by rw [i64_w, M.wrap64_id (by unfold I64; omega)]
  have hq : decide ((8 : Int) < (s.size : Int)) = false := decide_eq_false (by omega)
  have hq0 : decide (8 < s.size) = false := decide_eq_false (by omega)
  have hq00 : (8 < s.size) = False := eq_false (by omega)
  have HN := Lib.hid hn
  clear hn
  have HS := Lib.hid hs
  clear hs h8
  obtain ⟨At, ct, p0, p1, p2, y1, -, -⟩ := (HP0.out).cells
  obtain ⟨⟨c0, c1, c2, c3, c4, c5, c6, c7, c8, c9⟩, z0, z1, z2, z3, z4, z5, z6, z7, z8, z9⟩ := z10 BK0.out
  have hg1 : (g = W.heap.size) = False := eq_false (Nat.ne_of_lt HG.out)
  have hg2 : (W.heap.size = g) = False := eq_false (Nat.ne_of_gt HG.out)
  have hg3 : g < W.heap.size := HG.out
  clear hp hlen
  go_enter Tryz.func137, Tryz.ntmps137
  go_wp2_with (first | (go_at_call 75; (fail_if_success have := HP1); (with_reducible refine (sign_of g toks en _ HN.out _ _ _ _ _ _ _ HS.out ?s1 HLEN.out _ ?sp ?s2 ?s3 ?s4).mono ?_); (case sp => exact (Uq28 HP0.out)); (case s1 => decide); (case s2 => exact strC_new (by simp [World.setCell]) rfl (by decide)); (case s3 => decide); (case s4 => rfl); rintro e w1 ⟨rfl, hp, hb⟩; have HP1 := Lib.hid hp; have HB1 := Lib.hid (Bu.trans (g := g) (a := W.alloc nd0) (Uq29 HB0.out) hb); have BK1 := Lib.hid (hb.blk (k := W.heap.size) (o := nd0) (Uq30 BK0.out) (Nat.ne_of_gt HG.out)); have BF1 := Lib.hid (hb.blk (k := W.heap.size + 1) (o := fO s (.slice none 0 0)) (by with_reducible repeat (first | exact cw_bf _ _ _ _ | refine blk_alloc ?_ _)) (Nat.ne_of_gt (Nat.lt_succ_of_lt HG.out))); clear hp hb; (try clear c0 c1 c2 c3 c4 c5 c6 c7 c8 c9 z0 z1 z2 z3 z4 z5 z6 z7 z8 z9); (try clear hsz); (try clear hsy); (try clear a0 a1 a2 a3 a4 a5 a6 a7 a8 a9 x0 x1 x2 x3 x4 x5 x6 x7 x8 x9); obtain ⟨⟨c0, c1, c2, c3, c4, c5, c6, c7, c8, c9⟩, z0, z1, z2, z3, z4, z5, z6, z7, z8, z9⟩ := z10 BK1.out; have hsy : W.heap.size < w1.heap.size := blk_lt BK1.out; obtain ⟨⟨a0, a1, a2, a3, a4, a5, a6, a7, a8, a9⟩, x0, x1, x2, x3, x4, x5, x6, x7, x8, x9⟩ := z10 BF1.out; have hsz : W.heap.size + 1 < w1.heap.size := blk_lt BF1.out))
  refine bodyPost_ret (results_ct rfl _ _ W.heap.size 31 _ (0, 0) _ rfl (Uq4 BK1.out) hu rfl (by kernel_rfl)) rfl ?_
  refine ⟨?_, ?_, .slice none 0 0, ?_, Kd.V_nil _ _ _ _ _⟩
  · exact (Uq28 HP1.out)
  · exact (Uq31 HB1.out)
  · rfl
theorem fO_put {f : Nat} {s : ByteArray} {v : Value} {W : World} (h : W.heap[f]? = some (fO s v)) (u : Value) : (W.setCell ⟨f, 9, none⟩ u).heap[f]? = some (fO s u) := blk_put h 9 u rfl
theorem argsOf_of {f : Nat} {s : ByteArray} {W : World} {A : Option Addr} {n c : Nat} (h : W.heap[f]? = some (fO s (.slice A n c))) : argsOf f W = n := by
  unfold argsOf
  rw [blk_cell h 9]; rfl
theorem mu_call {f : Nat} {s : ByteArray} {wr wx : World} {A A' : Option Addr} {l : List TN} {c c' : Nat} (h : wr.heap[f]? = some (fO s (.slice A l.length c))) (hl : l.length < 10) (h' : wx.heap[f]? = some (fO s (.slice A' (l.length + 1) c'))) : 10 - argsOf f wx < 10 - argsOf f wr := by
  rw [argsOf_of h, argsOf_of h']
  omega
theorem okp_of {B : Nat} {wr : World} {v9 : Value} {l : List TN} (hN : kN B wr v9 l) (hB : B < wr.heap.size) : ∀ k, wr.heap.size ≤ k → B < k ∧ some k ≠ v9.ownBlock := fun k hk => ⟨by omega, fun e => by have := Kd.N_lt hN k e.symm; omega⟩
set_option maxHeartbeats 8000000 in
set_option maxRecDepth 100000 in
theorem call_args (toks : List Tok) (en i : Int) (s : ByteArray) (n : Nat) (hlen : toks.length ≤ 1000000) (hi : 0 ≤ i) (h40 : ¬ 40 < i) (h8 : ¬ 8 < s.size) (hn : n + 2 ≤ toks.length) (s1 : ByteArray) (n1 : Nat) (hs : signV toks (n + 2) [⟨#[41]⟩] = (s1, false, n1)) (r : PR × Nat) (hr : CallR toks en i s [] n1 r) : DoesS 137 toks en i s n r := by
  intro g W hp
  have hu := Tryz.underlying31
  have HG := Lib.hid hp.lt
  have HP0 := Lib.hid (hp.alloc nd0)
  have HB0 := Lib.hid (Bu.refl g (W.alloc nd0))
  have BK0 := Lib.hid (blk_new W nd0)
  have HPW := Lib.hid hp
  have HLEN := Lib.hid hlen
  have w2 : IntKind.i64.wrap ((n : Int) + 2) = (n : Int) + 2 := by rw [i64_w, M.wrap64_id (by unfold I64; omega)]
  have hq : decide ((8 : Int) < (s.size : Int)) = false := decide_eq_false (by omega)
  have hq0 : decide (8 < s.size) = false := decide_eq_false (by omega)
  have hq00 : (8 < s.size) = False := eq_false (by omega)
  have HN := Lib.hid hn
  clear hn
  have HS := Lib.hid hs
  have HR := Lib.hid hr
  have HI := Lib.hid (And.intro hi h40)
  clear hs hr h8 hi h40
  obtain ⟨At, ct, p0, p1, p2, y1, -, -⟩ := (HP0.out).cells
  obtain ⟨⟨c0, c1, c2, c3, c4, c5, c6, c7, c8, c9⟩, z0, z1, z2, z3, z4, z5, z6, z7, z8, z9⟩ := z10 BK0.out
  have hg1 : (g = W.heap.size) = False := eq_false (Nat.ne_of_lt HG.out)
  have hg2 : (W.heap.size = g) = False := eq_false (Nat.ne_of_gt HG.out)
  have hg3 : g < W.heap.size := HG.out
  clear hp hlen
  go_enter Tryz.func137, Tryz.ntmps137
  go_wp2_with (first | (go_at_call 75; (fail_if_success have := HP1); (with_reducible refine (sign_of g toks en _ HN.out _ _ _ _ _ _ _ HS.out ?s1 HLEN.out _ ?sp ?s2 ?s3 ?s4).mono ?_); (case sp => exact (Uq28 HP0.out)); (case s1 => decide); (case s2 => exact strC_new (by simp [World.setCell]) rfl (by decide)); (case s3 => decide); (case s4 => rfl); rintro e w1 ⟨rfl, hp, hb⟩; have HP1 := Lib.hid hp; have HB1 := Lib.hid (Bu.trans (g := g) (a := W.alloc nd0) (Uq29 HB0.out) hb); have BK1 := Lib.hid (hb.blk (k := W.heap.size) (o := nd0) (Uq30 BK0.out) (Nat.ne_of_gt HG.out)); have BF1 := Lib.hid (hb.blk (k := W.heap.size + 1) (o := fO s (.slice none 0 0)) (by with_reducible repeat (first | exact cw_bf _ _ _ _ | refine blk_alloc ?_ _)) (Nat.ne_of_gt (Nat.lt_succ_of_lt HG.out))); clear hp hb; (try clear c0 c1 c2 c3 c4 c5 c6 c7 c8 c9 z0 z1 z2 z3 z4 z5 z6 z7 z8 z9); (try clear hsz); (try clear hsy); (try clear a0 a1 a2 a3 a4 a5 a6 a7 a8 a9 x0 x1 x2 x3 x4 x5 x6 x7 x8 x9); obtain ⟨⟨c0, c1, c2, c3, c4, c5, c6, c7, c8, c9⟩, z0, z1, z2, z3, z4, z5, z6, z7, z8, z9⟩ := z10 BK1.out; have hsy : W.heap.size < w1.heap.size := blk_lt BK1.out; obtain ⟨⟨a0, a1, a2, a3, a4, a5, a6, a7, a8, a9⟩, x0, x1, x2, x3, x4, x5, x6, x7, x8, x9⟩ := z10 BF1.out; have hsz : W.heap.size + 1 < w1.heap.size := blk_lt BF1.out))
  clear HP0 HB0 BK0 p0 p1 p2 y1 hg1 hg2 hq hq0 hq00 w2
  go_loopw [12] (fun _ wr => CallS toks en i s g W r wr) (fun _ wr => 10 - argsOf (W.heap.size + 1) wr)
  case atStart => exact ⟨[], n1, .slice none 0 0, HR.out, HP1.out, HB1.out, BK1.out, BF1.out, Kd.N_nil _ _ _ _ _⟩
  case round =>
    clear HR HS HN HP1 HB1 BK1 BF1 hsz hsy c0 c1 c2 c3 c4 c5 c6 c7 c8 c9 z0 z1 z2 z3 z4 z5 z6 z7 z8 z9 a0 a1 a2 a3 a4 a5 a6 a7 a8 a9 x0 x1 x2 x3 x4 x5 x6 x7 x8 x9
    obtain ⟨l, n', v9, hr, hp, hb, hbk, hbf, hN⟩ := hrel
    obtain ⟨A, c, hv9⟩ := Kd.N_slice hN
    have HPr := Lib.hid hp
    have HBr := Lib.hid hb
    have BKr := Lib.hid hbk
    have BFr := Lib.hid hbf
    have BFl : Hid (wr.heap[W.heap.size + 1]? = some (fO s (.slice A l.length c))) := Lib.hid (by rw [← hv9]; exact hbf)
    have HNr := Lib.hid hN
    have hsz : W.heap.size + 1 < wr.heap.size := blk_lt hbf
    have HOK := Lib.hid (okp_of hN hsz)
    have hsy : W.heap.size < wr.heap.size := blk_lt hbk
    clear hp hb hbk hbf hN hv9
    obtain ⟨⟨c0, c1, c2, c3, c4, c5, c6, c7, c8, c9⟩, z0, z1, z2, z3, z4, z5, z6, z7, z8, z9⟩ := z10 BKr.out
    obtain ⟨⟨a0, a1, a2, a3, a4, a5, a6, a7, a8, a9⟩, x0, x1, x2, x3, x4, x5, x6, x7, x8, x9⟩ := z10 BFl.out
    cases hr with
    | full hl hn =>
      have hq1 : decide ((l.length : Int) < 10) = false := decide_eq_false (by omega)
      have hq10 : decide (l.length < 10) = false := decide_eq_false (by omega)
      have hq11 : (l.length < 10) = False := eq_false (by omega)
      have HN := Lib.hid hn
      clear hl hn
      go_wp2_with (first | (go_at_call 52; (with_reducible refine (fail_calls g toks en n' HN.out _ ?sp).mono ?_); (case sp => exact (Uq28 HPr.out)); rintro e w3 ⟨q, rfl, he, hq, hbl⟩; have HE := Lib.hid he; have HQ := Lib.hid (lo (g := g) (o := nd0) (W := W) (Uq29 HBr.out) hq); have hb := Bu.of_below (g := g) hbl; have hp := PS.below (g := g) (toks := toks) (en := en) (at_ := (n' : Int)) (Uq28 HPr.out) hbl; clear he hq hbl; have HP3 := Lib.hid hp; have HB3 := Lib.hid (Bu.trans (g := g) (a := W.alloc nd0) (Uq29 HBr.out) hb); have BK3 := Lib.hid (hb.blk (k := W.heap.size) (o := nd0) (Uq30 BKr.out) (Nat.ne_of_gt HG.out)); clear hp hb; (try clear c0 c1 c2 c3 c4 c5 c6 c7 c8 c9 z0 z1 z2 z3 z4 z5 z6 z7 z8 z9); (try clear hsz); (try clear hsy); (try clear a0 a1 a2 a3 a4 a5 a6 a7 a8 a9 x0 x1 x2 x3 x4 x5 x6 x7 x8 x9); obtain ⟨⟨c0, c1, c2, c3, c4, c5, c6, c7, c8, c9⟩, z0, z1, z2, z3, z4, z5, z6, z7, z8, z9⟩ := z10 BK3.out; have hsy : W.heap.size < w3.heap.size := blk_lt BK3.out))
      refine bodyPost_ret (results_ct rfl _ _ W.heap.size 31 _ (0, 0) _ rfl (Uq4 BK3.out) hu rfl (by kernel_rfl)) rfl ?_
      refine ⟨?_, ?_, q, ?_, ?_, Nat.le_of_lt HQ.out⟩
      · exact (Uq28 HP3.out)
      · exact (Uq31 HB3.out)
      · rfl
      · exact (Uq7 HE.out)
    | bad hl p c_ n1_ hf =>
      have hq1 : decide ((l.length : Int) < 10) = true := decide_eq_true (by omega)
      have hq10 : decide (l.length < 10) = true := decide_eq_true (by omega)
      have hq11 : (l.length < 10) = True := eq_true (by omega)
      have w1' : IntKind.i64.wrap (i + 1) = i + 1 := by rw [i64_w, M.wrap64_id (by have h := HI.out; unfold I64; omega)]
      have HF := Lib.hid hf
      clear hl hf
      go_wp2_with (first | (go_at_call 51; (with_reducible refine (HF.out.bad g _ ?sp).mono ?_); (case sp => exact (Uq28 HPr.out)); rintro e w2 ⟨hp, hb, q, rfl, he, hq⟩; have HE := Lib.hid he; have HQ := Lib.hid (lo (g := g) (o := nd0) (W := W) (Uq29 HBr.out) hq); clear he hq; have HP2 := Lib.hid hp; have HB2 := Lib.hid (Bu.trans (g := g) (a := W.alloc nd0) (Uq29 HBr.out) hb); have BK2 := Lib.hid (hb.blk (k := W.heap.size) (o := nd0) (Uq30 BKr.out) (Nat.ne_of_gt HG.out)); clear hp hb; (try clear c0 c1 c2 c3 c4 c5 c6 c7 c8 c9 z0 z1 z2 z3 z4 z5 z6 z7 z8 z9); (try clear hsz); (try clear hsy); (try clear a0 a1 a2 a3 a4 a5 a6 a7 a8 a9 x0 x1 x2 x3 x4 x5 x6 x7 x8 x9); obtain ⟨⟨c0, c1, c2, c3, c4, c5, c6, c7, c8, c9⟩, z0, z1, z2, z3, z4, z5, z6, z7, z8, z9⟩ := z10 BK2.out; have hsy : W.heap.size < w2.heap.size := blk_lt BK2.out))
      refine bodyPost_ret (results_ct rfl _ _ W.heap.size 31 _ (0, 0) _ rfl (Uq4 BK2.out) hu rfl (by kernel_rfl)) rfl ?_
      refine ⟨?_, ?_, q, ?_, ?_, Nat.le_of_lt HQ.out⟩
      · exact (Uq28 HP2.out)
      · exact (Uq31 HB2.out)
      · rfl
      · exact (Uq7 HE.out)
    | more hl a n1_ hf hn1 hlt s1_ n2_ hs hn2 h =>
      have hq1 : decide ((l.length : Int) < 10) = true := decide_eq_true (by omega)
      have hq10 : decide (l.length < 10) = true := decide_eq_true (by omega)
      have hq11 : (l.length < 10) = True := eq_true (by omega)
      have w1' : IntKind.i64.wrap (i + 1) = i + 1 := by rw [i64_w, M.wrap64_id (by have h := HI.out; unfold I64; omega)]
      have HF := Lib.hid hf
      have HL := Lib.hid hl
      have HN1 := Lib.hid hn1
      have HS := Lib.hid hs
      have HN2_ := Lib.hid hn2
      have HR := Lib.hid h
      clear hl hf hn1 hlt hs hn2 h
      go_wp2_with (first | (go_at_call 51; (with_reducible refine (HF.out.ok g _ ?sp).mono ?_); (case sp => exact (Uq28 HPr.out)); rintro e w2 ⟨hp, hb, v2, rfl, hv⟩; obtain ⟨AA2, kk2, rfl⟩ := Kd.V_slice hv; have HV2 := Lib.hid hv; clear hv; have HN2 := Lib.hid (Kd.N_step HNr.out (fun k hk hlt => hb.block k hlt (Nat.ne_of_gt (Nat.lt_trans (Nat.lt_succ_of_lt HG.out) hk)))); have HP2 := Lib.hid hp; have HB2 := Lib.hid (Bu.trans (g := g) (a := W.alloc nd0) (Uq29 HBr.out) hb); have BK2 := Lib.hid (hb.blk (k := W.heap.size) (o := nd0) (Uq30 BKr.out) (Nat.ne_of_gt HG.out)); have BF2 := Lib.hid (hb.blk (k := W.heap.size + 1) (o := fO s (v9)) (Uq32 BFr.out) (Nat.ne_of_gt (Nat.lt_succ_of_lt HG.out))); clear hp hb; (try clear c0 c1 c2 c3 c4 c5 c6 c7 c8 c9 z0 z1 z2 z3 z4 z5 z6 z7 z8 z9); (try clear hsz); (try clear hsy); (try clear a0 a1 a2 a3 a4 a5 a6 a7 a8 a9 x0 x1 x2 x3 x4 x5 x6 x7 x8 x9); obtain ⟨⟨c0, c1, c2, c3, c4, c5, c6, c7, c8, c9⟩, z0, z1, z2, z3, z4, z5, z6, z7, z8, z9⟩ := z10 BK2.out; have hsy : W.heap.size < w2.heap.size := blk_lt BK2.out; obtain ⟨⟨a0, a1, a2, a3, a4, a5, a6, a7, a8, a9⟩, x0, x1, x2, x3, x4, x5, x6, x7, x8, x9⟩ := z10 BF2.out; have hsz : W.heap.size + 1 < w2.heap.size := blk_lt BF2.out) | ((with_reducible refine gate_builtin (b := .append) (xs := #[.tmp 56, .tmp 58]) rfl ?_); at_builtin; refine Kd.N_append k31 (w0 := w2.alloc (ndO a (.slice AA2 a.f4.length kk2))) (W := w2.alloc (ndO a (.slice AA2 a.f4.length kk2))) (W.heap.size + 1) rfl (.tmp 56) (.tmp 58) 29 31 (.agg #[(.int .i64 0), (.int .i64 0), (.int .i64 0), (.string ⟨#[]⟩), (.int .i64 0), (.int .i64 0), (.int .i64 0), (.int .i64 0), (.string ⟨#[]⟩), (.slice none 0 0)]) 112 rfl Tryz.underlying29 info31 rfl (by decide) (by omega) v9 l a [.int .i64 a.f0, .int .i64 a.f1.f0, .int .i64 a.f1.f1, .string a.f1.f2, .int .i64 a.f2.f0.f0, .int .i64 a.f2.f0.f1, .int .i64 a.f2.f1.f0, .int .i64 a.f2.f1.f1, .string a.f3, .slice AA2 a.f4.length kk2] (fun k => W.heap.size + 1 < k) (fun k => wr.heap.size ≤ k) rfl ?aX ?aP HOK.out ?aF (Kd.N_alloc HN2.out _) (Below.refl _ _) ?aS ?aL ?_; (case aX => (have e_ : (w2.alloc (ndO a (.slice AA2 a.f4.length kk2))).heap.size = w2.heap.size + 1 := (by simp); rw [e_]; rfl)); (case aP => exact k31_mkF _ _ a (Kd.V_reads' HV2.out).2.1 (Kd.V_F (Kd.V_alloc HV2.out _))); (case aF => exact (fun k hk => (by have h1 := hsz; simp at hk; omega))); (case aS => (have h1 := hsz; simp; omega)); (case aL => (have h1 := HL.out; omega)); intro v3 w3 ho hb hg hat; obtain ⟨A3, cc3, hv3⟩ := Kd.N_slice ho; have hv3_ : v3 = .slice A3 (l.length + 1) cc3 := (by rw [hv3, List.length_append]; rfl); clear hv3; subst hv3_; have HN3 := Lib.hid ho; have HP3 := Lib.hid (PS.grown (HP2.out.alloc _) hg (fun k hk => Nat.lt_trans (Nat.lt_succ_of_lt HG.out) (HN2.out.1 k hk))); have HB3 := Lib.hid (Bu.grown (HB2.out.to_alloc _) hg (fun k hk => (by have h1 := HN2.out.1 k hk; simp; omega))); have BK3 := Lib.hid (blk_grown (blk_alloc BK2.out _) hg (Kd.N_away HN2.out (fun k hk => Nat.ne_of_gt (Nat.lt_trans (Nat.lt_succ_self _) hk)))); have BF3 := Lib.hid (blk_grown (blk_alloc BF2.out _) hg (Kd.N_away HN2.out (fun k hk => Nat.ne_of_gt hk))); clear ho hb hg hat; (try clear c0 c1 c2 c3 c4 c5 c6 c7 c8 c9 z0 z1 z2 z3 z4 z5 z6 z7 z8 z9); (try clear hsz); (try clear hsy); (try clear a0 a1 a2 a3 a4 a5 a6 a7 a8 a9 x0 x1 x2 x3 x4 x5 x6 x7 x8 x9); obtain ⟨⟨c0, c1, c2, c3, c4, c5, c6, c7, c8, c9⟩, z0, z1, z2, z3, z4, z5, z6, z7, z8, z9⟩ := z10 BK3.out; obtain ⟨⟨a0, a1, a2, a3, a4, a5, a6, a7, a8, a9⟩, x0, x1, x2, x3, x4, x5, x6, x7, x8, x9⟩ := z10 BF3.out; have hsz : W.heap.size + 1 < w3.heap.size := blk_lt BF3.out; have hsy : W.heap.size < w3.heap.size := blk_lt BK3.out) | (go_at_call 75; (fail_if_success have := HP4); (with_reducible refine (sign_of g toks en _ HN1.out _ _ _ _ _ _ _ HS.out ?s1 HLEN.out _ ?sp ?s2 ?s3 ?s4).mono ?_); (case sp => exact (Uq28 HP3.out)); (case s1 => decide); (case s2 => exact strC_new (by simp [World.setCell]) rfl (by decide)); (case s3 => decide); (case s4 => rfl); rintro e w4 ⟨rfl, hp, hb⟩; have HN4 := Lib.hid (Kd.N_step (show kN (W.heap.size + 1) _ (.slice A3 (l.length + 1) cc3) (l ++ [a]) from (Uq33 HN3.out)) (fun k hk hlt => hb.block k hlt (Nat.ne_of_gt (Nat.lt_trans (Nat.lt_succ_of_lt HG.out) hk)))); have HP4 := Lib.hid hp; have HB4 := Lib.hid (Bu.trans (g := g) (a := W.alloc nd0) (Uq29 HB3.out) hb); have BK4 := Lib.hid (hb.blk (k := W.heap.size) (o := nd0) (Uq30 BK3.out) (Nat.ne_of_gt HG.out)); have BF4 := Lib.hid (hb.blk (k := W.heap.size + 1) (o := fO s (.slice A3 (l.length + 1) cc3)) (Uq34 BF3.out) (Nat.ne_of_gt (Nat.lt_succ_of_lt HG.out))); clear hp hb; (try clear c0 c1 c2 c3 c4 c5 c6 c7 c8 c9 z0 z1 z2 z3 z4 z5 z6 z7 z8 z9); (try clear hsz); (try clear hsy); (try clear a0 a1 a2 a3 a4 a5 a6 a7 a8 a9 x0 x1 x2 x3 x4 x5 x6 x7 x8 x9); obtain ⟨⟨c0, c1, c2, c3, c4, c5, c6, c7, c8, c9⟩, z0, z1, z2, z3, z4, z5, z6, z7, z8, z9⟩ := z10 BK4.out; have hsy : W.heap.size < w4.heap.size := blk_lt BK4.out; obtain ⟨⟨a0, a1, a2, a3, a4, a5, a6, a7, a8, a9⟩, x0, x1, x2, x3, x4, x5, x6, x7, x8, x9⟩ := z10 BF4.out; have hsz : W.heap.size + 1 < w4.heap.size := blk_lt BF4.out))
      go_roundw
      case rel => exact ⟨l ++ [a], n2_, _, HR.out, HP4.out, HB4.out, BK4.out, BF4.out, HN4.out⟩
      case measure => exact mu_call BFl.out HL.out BF4.out
    | done hl a n1_ hf hn1 s1_ n2_ hs hn2 s2_ n3_ hs2 =>
      have hq1 : decide ((l.length : Int) < 10) = true := decide_eq_true (by omega)
      have hq10 : decide (l.length < 10) = true := decide_eq_true (by omega)
      have hq11 : (l.length < 10) = True := eq_true (by omega)
      have w1' : IntKind.i64.wrap (i + 1) = i + 1 := by rw [i64_w, M.wrap64_id (by have h := HI.out; unfold I64; omega)]
      have HF := Lib.hid hf
      have HL := Lib.hid hl
      have HN1 := Lib.hid hn1
      have HS := Lib.hid hs
      have HN2_ := Lib.hid hn2
      have HS2 := Lib.hid hs2
      clear hl hf hn1 hs hn2 hs2
      go_wp2_with (first | (go_at_call 51; (with_reducible refine (HF.out.ok g _ ?sp).mono ?_); (case sp => exact (Uq28 HPr.out)); rintro e w2 ⟨hp, hb, v2, rfl, hv⟩; obtain ⟨AA2, kk2, rfl⟩ := Kd.V_slice hv; have HV2 := Lib.hid hv; clear hv; have HN2 := Lib.hid (Kd.N_step HNr.out (fun k hk hlt => hb.block k hlt (Nat.ne_of_gt (Nat.lt_trans (Nat.lt_succ_of_lt HG.out) hk)))); have HP2 := Lib.hid hp; have HB2 := Lib.hid (Bu.trans (g := g) (a := W.alloc nd0) (Uq29 HBr.out) hb); have BK2 := Lib.hid (hb.blk (k := W.heap.size) (o := nd0) (Uq30 BKr.out) (Nat.ne_of_gt HG.out)); have BF2 := Lib.hid (hb.blk (k := W.heap.size + 1) (o := fO s (v9)) (Uq32 BFr.out) (Nat.ne_of_gt (Nat.lt_succ_of_lt HG.out))); clear hp hb; (try clear c0 c1 c2 c3 c4 c5 c6 c7 c8 c9 z0 z1 z2 z3 z4 z5 z6 z7 z8 z9); (try clear hsz); (try clear hsy); (try clear a0 a1 a2 a3 a4 a5 a6 a7 a8 a9 x0 x1 x2 x3 x4 x5 x6 x7 x8 x9); obtain ⟨⟨c0, c1, c2, c3, c4, c5, c6, c7, c8, c9⟩, z0, z1, z2, z3, z4, z5, z6, z7, z8, z9⟩ := z10 BK2.out; have hsy : W.heap.size < w2.heap.size := blk_lt BK2.out; obtain ⟨⟨a0, a1, a2, a3, a4, a5, a6, a7, a8, a9⟩, x0, x1, x2, x3, x4, x5, x6, x7, x8, x9⟩ := z10 BF2.out; have hsz : W.heap.size + 1 < w2.heap.size := blk_lt BF2.out) | ((with_reducible refine gate_builtin (b := .append) (xs := #[.tmp 56, .tmp 58]) rfl ?_); at_builtin; refine Kd.N_append k31 (w0 := w2.alloc (ndO a (.slice AA2 a.f4.length kk2))) (W := w2.alloc (ndO a (.slice AA2 a.f4.length kk2))) (W.heap.size + 1) rfl (.tmp 56) (.tmp 58) 29 31 (.agg #[(.int .i64 0), (.int .i64 0), (.int .i64 0), (.string ⟨#[]⟩), (.int .i64 0), (.int .i64 0), (.int .i64 0), (.int .i64 0), (.string ⟨#[]⟩), (.slice none 0 0)]) 112 rfl Tryz.underlying29 info31 rfl (by decide) (by omega) v9 l a [.int .i64 a.f0, .int .i64 a.f1.f0, .int .i64 a.f1.f1, .string a.f1.f2, .int .i64 a.f2.f0.f0, .int .i64 a.f2.f0.f1, .int .i64 a.f2.f1.f0, .int .i64 a.f2.f1.f1, .string a.f3, .slice AA2 a.f4.length kk2] (fun k => W.heap.size + 1 < k) (fun k => wr.heap.size ≤ k) rfl ?aX ?aP HOK.out ?aF (Kd.N_alloc HN2.out _) (Below.refl _ _) ?aS ?aL ?_; (case aX => (have e_ : (w2.alloc (ndO a (.slice AA2 a.f4.length kk2))).heap.size = w2.heap.size + 1 := (by simp); rw [e_]; rfl)); (case aP => exact k31_mkF _ _ a (Kd.V_reads' HV2.out).2.1 (Kd.V_F (Kd.V_alloc HV2.out _))); (case aF => exact (fun k hk => (by have h1 := hsz; simp at hk; omega))); (case aS => (have h1 := hsz; simp; omega)); (case aL => (have h1 := HL.out; omega)); intro v3 w3 ho hb hg hat; obtain ⟨A3, cc3, hv3⟩ := Kd.N_slice ho; have hv3_ : v3 = .slice A3 (l.length + 1) cc3 := (by rw [hv3, List.length_append]; rfl); clear hv3; subst hv3_; have HN3 := Lib.hid ho; have HP3 := Lib.hid (PS.grown (HP2.out.alloc _) hg (fun k hk => Nat.lt_trans (Nat.lt_succ_of_lt HG.out) (HN2.out.1 k hk))); have HB3 := Lib.hid (Bu.grown (HB2.out.to_alloc _) hg (fun k hk => (by have h1 := HN2.out.1 k hk; simp; omega))); have BK3 := Lib.hid (blk_grown (blk_alloc BK2.out _) hg (Kd.N_away HN2.out (fun k hk => Nat.ne_of_gt (Nat.lt_trans (Nat.lt_succ_self _) hk)))); have BF3 := Lib.hid (blk_grown (blk_alloc BF2.out _) hg (Kd.N_away HN2.out (fun k hk => Nat.ne_of_gt hk))); clear ho hb hg hat; (try clear c0 c1 c2 c3 c4 c5 c6 c7 c8 c9 z0 z1 z2 z3 z4 z5 z6 z7 z8 z9); (try clear hsz); (try clear hsy); (try clear a0 a1 a2 a3 a4 a5 a6 a7 a8 a9 x0 x1 x2 x3 x4 x5 x6 x7 x8 x9); obtain ⟨⟨c0, c1, c2, c3, c4, c5, c6, c7, c8, c9⟩, z0, z1, z2, z3, z4, z5, z6, z7, z8, z9⟩ := z10 BK3.out; obtain ⟨⟨a0, a1, a2, a3, a4, a5, a6, a7, a8, a9⟩, x0, x1, x2, x3, x4, x5, x6, x7, x8, x9⟩ := z10 BF3.out; have hsz : W.heap.size + 1 < w3.heap.size := blk_lt BF3.out; have hsy : W.heap.size < w3.heap.size := blk_lt BK3.out) | (go_at_call 75; (fail_if_success have := HP4); (with_reducible refine (sign_of g toks en _ HN1.out _ _ _ _ _ _ _ HS.out ?s1 HLEN.out _ ?sp ?s2 ?s3 ?s4).mono ?_); (case sp => exact (Uq28 HP3.out)); (case s1 => decide); (case s2 => exact strC_new (by simp [World.setCell]) rfl (by decide)); (case s3 => decide); (case s4 => rfl); rintro e w4 ⟨rfl, hp, hb⟩; have HN4 := Lib.hid (Kd.N_step (show kN (W.heap.size + 1) _ (.slice A3 (l.length + 1) cc3) (l ++ [a]) from (Uq33 HN3.out)) (fun k hk hlt => hb.block k hlt (Nat.ne_of_gt (Nat.lt_trans (Nat.lt_succ_of_lt HG.out) hk)))); have HP4 := Lib.hid hp; have HB4 := Lib.hid (Bu.trans (g := g) (a := W.alloc nd0) (Uq29 HB3.out) hb); have BK4 := Lib.hid (hb.blk (k := W.heap.size) (o := nd0) (Uq30 BK3.out) (Nat.ne_of_gt HG.out)); have BF4 := Lib.hid (hb.blk (k := W.heap.size + 1) (o := fO s (.slice A3 (l.length + 1) cc3)) (Uq34 BF3.out) (Nat.ne_of_gt (Nat.lt_succ_of_lt HG.out))); clear hp hb; (try clear c0 c1 c2 c3 c4 c5 c6 c7 c8 c9 z0 z1 z2 z3 z4 z5 z6 z7 z8 z9); (try clear hsz); (try clear hsy); (try clear a0 a1 a2 a3 a4 a5 a6 a7 a8 a9 x0 x1 x2 x3 x4 x5 x6 x7 x8 x9); obtain ⟨⟨c0, c1, c2, c3, c4, c5, c6, c7, c8, c9⟩, z0, z1, z2, z3, z4, z5, z6, z7, z8, z9⟩ := z10 BK4.out; have hsy : W.heap.size < w4.heap.size := blk_lt BK4.out; obtain ⟨⟨a0, a1, a2, a3, a4, a5, a6, a7, a8, a9⟩, x0, x1, x2, x3, x4, x5, x6, x7, x8, x9⟩ := z10 BF4.out; have hsz : W.heap.size + 1 < w4.heap.size := blk_lt BF4.out) | (go_at_call 75; (fail_if_success have := HP5); (with_reducible refine (sign_of g toks en _ HN2_.out _ _ _ _ _ _ _ HS2.out ?s1 HLEN.out _ ?sp ?s2 ?s3 ?s4).mono ?_); (case sp => exact (Uq28 HP4.out)); (case s1 => decide); (case s2 => exact strC_new (by simp [World.setCell]) rfl (by decide)); (case s3 => decide); (case s4 => rfl); rintro e w5 ⟨rfl, hp, hb⟩; have HN5 := Lib.hid (Kd.N_step (show kN (W.heap.size + 1) _ (.slice A3 (l.length + 1) cc3) (l ++ [a]) from (Uq33 HN4.out)) (fun k hk hlt => hb.block k hlt (Nat.ne_of_gt (Nat.lt_trans (Nat.lt_succ_of_lt HG.out) hk)))); have HP5 := Lib.hid hp; have HB5 := Lib.hid (Bu.trans (g := g) (a := W.alloc nd0) (Uq29 HB4.out) hb); have BK5 := Lib.hid (hb.blk (k := W.heap.size) (o := nd0) (Uq30 BK4.out) (Nat.ne_of_gt HG.out)); have BF5 := Lib.hid (hb.blk (k := W.heap.size + 1) (o := fO s (.slice A3 (l.length + 1) cc3)) (Uq32 BF4.out) (Nat.ne_of_gt (Nat.lt_succ_of_lt HG.out))); clear hp hb; (try clear c0 c1 c2 c3 c4 c5 c6 c7 c8 c9 z0 z1 z2 z3 z4 z5 z6 z7 z8 z9); (try clear hsz); (try clear hsy); (try clear a0 a1 a2 a3 a4 a5 a6 a7 a8 a9 x0 x1 x2 x3 x4 x5 x6 x7 x8 x9); obtain ⟨⟨c0, c1, c2, c3, c4, c5, c6, c7, c8, c9⟩, z0, z1, z2, z3, z4, z5, z6, z7, z8, z9⟩ := z10 BK5.out; have hsy : W.heap.size < w5.heap.size := blk_lt BK5.out; obtain ⟨⟨a0, a1, a2, a3, a4, a5, a6, a7, a8, a9⟩, x0, x1, x2, x3, x4, x5, x6, x7, x8, x9⟩ := z10 BF5.out; have hsz : W.heap.size + 1 < w5.heap.size := blk_lt BF5.out))
      refine bodyPost_ret (results_ct rfl _ _ W.heap.size 31 _ (0, 0) _ rfl (Uq4 BK5.out) hu rfl (by kernel_rfl)) rfl ?_
      refine ⟨?_, ?_, .slice A3 (l.length + 1) cc3, ?_, Kd.V_mono (put10_vN (ok := fun k => W.heap.size < k) (Kd.V_mono (Kd.N_V (base' := 0) HN5.out) (fun k hk => Nat.lt_trans (Nat.lt_succ_self _) hk)) (fun k hk => Nat.ne_of_gt hk) _ _ _ _ _ _ _ _ _ _) (fun k hk => Nat.le_of_lt hk)⟩
      · exact (Uq28 HP5.out)
      · exact (Uq31 HB5.out)
      · rfl
    | open_ hl a n1_ hf hn1 s1_ n2_ hs hn2 s2_ n3_ hs2 hn3 =>
      have hq1 : decide ((l.length : Int) < 10) = true := decide_eq_true (by omega)
      have hq10 : decide (l.length < 10) = true := decide_eq_true (by omega)
      have hq11 : (l.length < 10) = True := eq_true (by omega)
      have w1' : IntKind.i64.wrap (i + 1) = i + 1 := by rw [i64_w, M.wrap64_id (by have h := HI.out; unfold I64; omega)]
      have HF := Lib.hid hf
      have HL := Lib.hid hl
      have HN1 := Lib.hid hn1
      have HS := Lib.hid hs
      have HN2_ := Lib.hid hn2
      have HS2 := Lib.hid hs2
      have HN3_ := Lib.hid hn3
      clear hl hf hn1 hs hn2 hs2 hn3
      go_wp2_with (first | (go_at_call 51; (with_reducible refine (HF.out.ok g _ ?sp).mono ?_); (case sp => exact (Uq28 HPr.out)); rintro e w2 ⟨hp, hb, v2, rfl, hv⟩; obtain ⟨AA2, kk2, rfl⟩ := Kd.V_slice hv; have HV2 := Lib.hid hv; clear hv; have HN2 := Lib.hid (Kd.N_step HNr.out (fun k hk hlt => hb.block k hlt (Nat.ne_of_gt (Nat.lt_trans (Nat.lt_succ_of_lt HG.out) hk)))); have HP2 := Lib.hid hp; have HB2 := Lib.hid (Bu.trans (g := g) (a := W.alloc nd0) (Uq29 HBr.out) hb); have BK2 := Lib.hid (hb.blk (k := W.heap.size) (o := nd0) (Uq30 BKr.out) (Nat.ne_of_gt HG.out)); have BF2 := Lib.hid (hb.blk (k := W.heap.size + 1) (o := fO s (v9)) (Uq32 BFr.out) (Nat.ne_of_gt (Nat.lt_succ_of_lt HG.out))); clear hp hb; (try clear c0 c1 c2 c3 c4 c5 c6 c7 c8 c9 z0 z1 z2 z3 z4 z5 z6 z7 z8 z9); (try clear hsz); (try clear hsy); (try clear a0 a1 a2 a3 a4 a5 a6 a7 a8 a9 x0 x1 x2 x3 x4 x5 x6 x7 x8 x9); obtain ⟨⟨c0, c1, c2, c3, c4, c5, c6, c7, c8, c9⟩, z0, z1, z2, z3, z4, z5, z6, z7, z8, z9⟩ := z10 BK2.out; have hsy : W.heap.size < w2.heap.size := blk_lt BK2.out; obtain ⟨⟨a0, a1, a2, a3, a4, a5, a6, a7, a8, a9⟩, x0, x1, x2, x3, x4, x5, x6, x7, x8, x9⟩ := z10 BF2.out; have hsz : W.heap.size + 1 < w2.heap.size := blk_lt BF2.out) | ((with_reducible refine gate_builtin (b := .append) (xs := #[.tmp 56, .tmp 58]) rfl ?_); at_builtin; refine Kd.N_append k31 (w0 := w2.alloc (ndO a (.slice AA2 a.f4.length kk2))) (W := w2.alloc (ndO a (.slice AA2 a.f4.length kk2))) (W.heap.size + 1) rfl (.tmp 56) (.tmp 58) 29 31 (.agg #[(.int .i64 0), (.int .i64 0), (.int .i64 0), (.string ⟨#[]⟩), (.int .i64 0), (.int .i64 0), (.int .i64 0), (.int .i64 0), (.string ⟨#[]⟩), (.slice none 0 0)]) 112 rfl Tryz.underlying29 info31 rfl (by decide) (by omega) v9 l a [.int .i64 a.f0, .int .i64 a.f1.f0, .int .i64 a.f1.f1, .string a.f1.f2, .int .i64 a.f2.f0.f0, .int .i64 a.f2.f0.f1, .int .i64 a.f2.f1.f0, .int .i64 a.f2.f1.f1, .string a.f3, .slice AA2 a.f4.length kk2] (fun k => W.heap.size + 1 < k) (fun k => wr.heap.size ≤ k) rfl ?aX ?aP HOK.out ?aF (Kd.N_alloc HN2.out _) (Below.refl _ _) ?aS ?aL ?_; (case aX => (have e_ : (w2.alloc (ndO a (.slice AA2 a.f4.length kk2))).heap.size = w2.heap.size + 1 := (by simp); rw [e_]; rfl)); (case aP => exact k31_mkF _ _ a (Kd.V_reads' HV2.out).2.1 (Kd.V_F (Kd.V_alloc HV2.out _))); (case aF => exact (fun k hk => (by have h1 := hsz; simp at hk; omega))); (case aS => (have h1 := hsz; simp; omega)); (case aL => (have h1 := HL.out; omega)); intro v3 w3 ho hb hg hat; obtain ⟨A3, cc3, hv3⟩ := Kd.N_slice ho; have hv3_ : v3 = .slice A3 (l.length + 1) cc3 := (by rw [hv3, List.length_append]; rfl); clear hv3; subst hv3_; have HN3 := Lib.hid ho; have HP3 := Lib.hid (PS.grown (HP2.out.alloc _) hg (fun k hk => Nat.lt_trans (Nat.lt_succ_of_lt HG.out) (HN2.out.1 k hk))); have HB3 := Lib.hid (Bu.grown (HB2.out.to_alloc _) hg (fun k hk => (by have h1 := HN2.out.1 k hk; simp; omega))); have BK3 := Lib.hid (blk_grown (blk_alloc BK2.out _) hg (Kd.N_away HN2.out (fun k hk => Nat.ne_of_gt (Nat.lt_trans (Nat.lt_succ_self _) hk)))); have BF3 := Lib.hid (blk_grown (blk_alloc BF2.out _) hg (Kd.N_away HN2.out (fun k hk => Nat.ne_of_gt hk))); clear ho hb hg hat; (try clear c0 c1 c2 c3 c4 c5 c6 c7 c8 c9 z0 z1 z2 z3 z4 z5 z6 z7 z8 z9); (try clear hsz); (try clear hsy); (try clear a0 a1 a2 a3 a4 a5 a6 a7 a8 a9 x0 x1 x2 x3 x4 x5 x6 x7 x8 x9); obtain ⟨⟨c0, c1, c2, c3, c4, c5, c6, c7, c8, c9⟩, z0, z1, z2, z3, z4, z5, z6, z7, z8, z9⟩ := z10 BK3.out; obtain ⟨⟨a0, a1, a2, a3, a4, a5, a6, a7, a8, a9⟩, x0, x1, x2, x3, x4, x5, x6, x7, x8, x9⟩ := z10 BF3.out; have hsz : W.heap.size + 1 < w3.heap.size := blk_lt BF3.out; have hsy : W.heap.size < w3.heap.size := blk_lt BK3.out) | (go_at_call 75; (fail_if_success have := HP4); (with_reducible refine (sign_of g toks en _ HN1.out _ _ _ _ _ _ _ HS.out ?s1 HLEN.out _ ?sp ?s2 ?s3 ?s4).mono ?_); (case sp => exact (Uq28 HP3.out)); (case s1 => decide); (case s2 => exact strC_new (by simp [World.setCell]) rfl (by decide)); (case s3 => decide); (case s4 => rfl); rintro e w4 ⟨rfl, hp, hb⟩; have HN4 := Lib.hid (Kd.N_step (show kN (W.heap.size + 1) _ (.slice A3 (l.length + 1) cc3) (l ++ [a]) from (Uq33 HN3.out)) (fun k hk hlt => hb.block k hlt (Nat.ne_of_gt (Nat.lt_trans (Nat.lt_succ_of_lt HG.out) hk)))); have HP4 := Lib.hid hp; have HB4 := Lib.hid (Bu.trans (g := g) (a := W.alloc nd0) (Uq29 HB3.out) hb); have BK4 := Lib.hid (hb.blk (k := W.heap.size) (o := nd0) (Uq30 BK3.out) (Nat.ne_of_gt HG.out)); have BF4 := Lib.hid (hb.blk (k := W.heap.size + 1) (o := fO s (.slice A3 (l.length + 1) cc3)) (Uq34 BF3.out) (Nat.ne_of_gt (Nat.lt_succ_of_lt HG.out))); clear hp hb; (try clear c0 c1 c2 c3 c4 c5 c6 c7 c8 c9 z0 z1 z2 z3 z4 z5 z6 z7 z8 z9); (try clear hsz); (try clear hsy); (try clear a0 a1 a2 a3 a4 a5 a6 a7 a8 a9 x0 x1 x2 x3 x4 x5 x6 x7 x8 x9); obtain ⟨⟨c0, c1, c2, c3, c4, c5, c6, c7, c8, c9⟩, z0, z1, z2, z3, z4, z5, z6, z7, z8, z9⟩ := z10 BK4.out; have hsy : W.heap.size < w4.heap.size := blk_lt BK4.out; obtain ⟨⟨a0, a1, a2, a3, a4, a5, a6, a7, a8, a9⟩, x0, x1, x2, x3, x4, x5, x6, x7, x8, x9⟩ := z10 BF4.out; have hsz : W.heap.size + 1 < w4.heap.size := blk_lt BF4.out) | (go_at_call 75; (fail_if_success have := HP5); (with_reducible refine (sign_of g toks en _ HN2_.out _ _ _ _ _ _ _ HS2.out ?s1 HLEN.out _ ?sp ?s2 ?s3 ?s4).mono ?_); (case sp => exact (Uq28 HP4.out)); (case s1 => decide); (case s2 => exact strC_new (by simp [World.setCell]) rfl (by decide)); (case s3 => decide); (case s4 => rfl); rintro e w5 ⟨rfl, hp, hb⟩; have HN5 := Lib.hid (Kd.N_step (show kN (W.heap.size + 1) _ (.slice A3 (l.length + 1) cc3) (l ++ [a]) from (Uq33 HN4.out)) (fun k hk hlt => hb.block k hlt (Nat.ne_of_gt (Nat.lt_trans (Nat.lt_succ_of_lt HG.out) hk)))); have HP5 := Lib.hid hp; have HB5 := Lib.hid (Bu.trans (g := g) (a := W.alloc nd0) (Uq29 HB4.out) hb); have BK5 := Lib.hid (hb.blk (k := W.heap.size) (o := nd0) (Uq30 BK4.out) (Nat.ne_of_gt HG.out)); have BF5 := Lib.hid (hb.blk (k := W.heap.size + 1) (o := fO s (.slice A3 (l.length + 1) cc3)) (Uq32 BF4.out) (Nat.ne_of_gt (Nat.lt_succ_of_lt HG.out))); clear hp hb; (try clear c0 c1 c2 c3 c4 c5 c6 c7 c8 c9 z0 z1 z2 z3 z4 z5 z6 z7 z8 z9); (try clear hsz); (try clear hsy); (try clear a0 a1 a2 a3 a4 a5 a6 a7 a8 a9 x0 x1 x2 x3 x4 x5 x6 x7 x8 x9); obtain ⟨⟨c0, c1, c2, c3, c4, c5, c6, c7, c8, c9⟩, z0, z1, z2, z3, z4, z5, z6, z7, z8, z9⟩ := z10 BK5.out; have hsy : W.heap.size < w5.heap.size := blk_lt BK5.out; obtain ⟨⟨a0, a1, a2, a3, a4, a5, a6, a7, a8, a9⟩, x0, x1, x2, x3, x4, x5, x6, x7, x8, x9⟩ := z10 BF5.out; have hsz : W.heap.size + 1 < w5.heap.size := blk_lt BF5.out) | (go_at_call 52; (with_reducible refine (fail_calls g toks en n3_ HN3_.out _ ?sp).mono ?_); (case sp => exact (Uq28 HP5.out)); rintro e w6 ⟨q, rfl, he, hq, hbl⟩; have HE := Lib.hid he; have HQ := Lib.hid (lo (g := g) (o := nd0) (W := W) (Uq29 HB5.out) hq); have hb := Bu.of_below (g := g) hbl; have hp := PS.below (g := g) (toks := toks) (en := en) (at_ := (n3_ : Int)) (Uq28 HP5.out) hbl; clear he hq hbl; have HP6 := Lib.hid hp; have HB6 := Lib.hid (Bu.trans (g := g) (a := W.alloc nd0) (Uq29 HB5.out) hb); have BK6 := Lib.hid (hb.blk (k := W.heap.size) (o := nd0) (Uq30 BK5.out) (Nat.ne_of_gt HG.out)); clear hp hb; (try clear c0 c1 c2 c3 c4 c5 c6 c7 c8 c9 z0 z1 z2 z3 z4 z5 z6 z7 z8 z9); (try clear hsz); (try clear hsy); (try clear a0 a1 a2 a3 a4 a5 a6 a7 a8 a9 x0 x1 x2 x3 x4 x5 x6 x7 x8 x9); obtain ⟨⟨c0, c1, c2, c3, c4, c5, c6, c7, c8, c9⟩, z0, z1, z2, z3, z4, z5, z6, z7, z8, z9⟩ := z10 BK6.out; have hsy : W.heap.size < w6.heap.size := blk_lt BK6.out))
      refine bodyPost_ret (results_ct rfl _ _ W.heap.size 31 _ (0, 0) _ rfl (Uq4 BK6.out) hu rfl (by kernel_rfl)) rfl ?_
      refine ⟨?_, ?_, q, ?_, ?_, Nat.le_of_lt HQ.out⟩
      · exact (Uq28 HP6.out)
      · exact (Uq31 HB6.out)
      · rfl
      · exact (Uq7 HE.out)
end Go.Proofs.YtnomfbmebafolaaGreatDoor.P

namespace Go.Proofs.YtnomfbmebafolaaGreatDoor.P
open Go.RowKit Go.Proofs.YtnomfbmebafolaaGreatDoorW.PrintWords Go.Proofs.YtnomfbmebafolaaGreatDoorW.PrintLast Go.Proofs.YtnomfbmebafolaaGreatDoorW.PrintMore
open M (I64)
set_option linter.unusedVariables false
set_option linter.unusedSimpArgs false
def DoesF (m : Nat) (toks : List Tok) (en : Int) (i : Int) (F : PF) : Prop := ∀ n, n ≤ toks.length → Does m toks en i n (F n)
theorem row_of {m : Nat} {toks : List Tok} {en i : Int} {part : PF} (l : List ByteArray) (hp : Fit toks part) (hd : DoesF m toks en i part) : ∀ (k : Nat) (a : TN) (n : Nat), n ≤ toks.length → toks.length - n < k → RowR m toks en i l a n (rowF toks part l k a n) := by
  intro k
  induction k with
  | zero => intro a n hn hk; omega
  | succ k ih =>
    intro a n hn hk
    unfold rowF
    rcases sign_cases toks n l with e | ⟨s, e, hlt⟩
    · rw [e]; exact .stop _ _ hn e
    · rw [e]
      dsimp only
      have hdo := hd (n + 1) (by omega)
      cases e2 : part (n + 1) with
      | mk r m2 =>
        have h2 := hp.le (by omega) e2
        rw [e2] at hdo
        cases r with
        | bad p c => exact .bad s (n + 1) p c m2 hn e hdo (by omega)
        | ok b => exact .more s (n + 1) b m2 hn e hdo (by omega) (ih (twoT s a b) m2 h2.2 (by omega))
theorem prod_does {toks : List Tok} {en i : Int} {pow : PF} (hlen : toks.length ≤ 1000000) (hp : Fit toks pow) (hd : DoesF 109 toks en i pow) : DoesF 93 toks en i (prodF toks pow) := by
  intro n hn
  have h := hd n hn
  unfold prodF rowsF
  cases e : pow n with
  | mk r m =>
    rw [e] at h
    cases r with
    | bad p c => exact product_bad toks en i n hlen m p c h
    | ok a => exact product_ok toks en i n hlen m a h _ (row_of prodL hp hd _ a m (hp.le hn e).2 (by omega))
theorem sum_does {toks : List Tok} {en i : Int} {prod : PF} (hlen : toks.length ≤ 1000000) (hp : Fit toks prod) (hd : DoesF 93 toks en i prod) : DoesF 74 toks en i (rowsF toks prod sumL) := by
  intro n hn
  have h := hd n hn
  unfold rowsF
  cases e : prod n with
  | mk r m =>
    rw [e] at h
    cases r with
    | bad p c => exact sum_bad toks en i n hlen m p c h
    | ok a => exact sum_ok toks en i n hlen m a h _ (row_of sumL hp hd _ a m (hp.le hn e).2 (by omega))
theorem form_does {toks : List Tok} {en i : Int} {sum : PF} (hlen : toks.length ≤ 1000000) (hi : 0 ≤ i) (h40 : ¬ 40 < i) (hs : Fit toks sum) (hd : DoesF 74 toks en i sum) : DoesF 51 toks en i (formF toks sum) := by
  intro n hn
  have h := hd n hn
  unfold formF
  cases e : sum n with
  | mk r m =>
    have hm := hs.le hn e
    rw [e] at h
    cases r with
    | bad p c => exact formula_abad toks en i n m p c h40 hi h
    | ok a =>
      dsimp only
      rcases sign_cases toks m sixL with e1 | ⟨s, e1, hlt⟩
      · rw [e1]; exact formula_one toks en i n m a h40 hi _ m e1 hm.2 hlen h
      · rw [e1]
        dsimp only
        have h2 := hd (m + 1) (by omega)
        cases e2 : sum (m + 1) with
        | mk r2 m2 =>
          rw [e2] at h2
          cases r2 with
          | bad p c => exact formula_bbad toks en i n m m2 a p c h40 hi s (m + 1) e1 hm.2 hlen h h2
          | ok b => exact formula_two toks en i n m m2 a b h40 hi s (m + 1) e1 hm.2 hlen h h2
theorem pow_does {toks : List Tok} {en i : Int} {un pow' : PF} (hlen : toks.length ≤ 1000000) (hi : 0 ≤ i) (h40 : ¬ 40 < i) (hs : Fit toks un) (hd : DoesF 125 toks en i un) (hd' : DoesF 109 toks en (i + 1) pow') : DoesF 109 toks en i (powF toks un pow') := by
  intro n hn
  have h := hd n hn
  unfold powF
  cases e : un n with
  | mk r m =>
    have hm := hs.le hn e
    rw [e] at h
    cases r with
    | bad p c => exact power_ubad toks en i n m p c h40 hi h
    | ok a =>
      dsimp only
      rcases sign_cases toks m [⟨#[94]⟩] with e1 | ⟨s, e1, hlt⟩
      · rw [e1]; exact power_one toks en i n m a h40 hi _ m e1 hm.2 hlen h
      · rw [e1]
        dsimp only
        have h2 := hd' (m + 1) (by omega)
        cases e2 : pow' (m + 1) with
        | mk r2 m2 =>
          rw [e2] at h2
          cases r2 with
          | bad p c => exact power_bbad toks en i n m m2 a p c h40 hi s (m + 1) e1 hm.2 hlen h h2
          | ok b => exact power_two toks en i n m m2 a b h40 hi s (m + 1) e1 hm.2 hlen h h2
theorem un_does {toks : List Tok} {en i : Int} {part un' : PF} (hlen : toks.length ≤ 1000000) (hi : 0 ≤ i) (h40 : ¬ 40 < i) (hd : DoesF 132 toks en i part) (hd' : DoesF 125 toks en (i + 1) un') : DoesF 125 toks en i (unF toks part un') := by
  intro n hn
  unfold unF
  rcases sign_cases toks n [⟨#[45]⟩] with e1 | ⟨s, e1, hlt⟩
  · rw [e1]
    dsimp only
    have h := hd n hn
    cases e : part n with
    | mk r m =>
      rw [e] at h
      cases r with
      | bad p c => exact unary_pbad toks en i n m p c h40 hi _ n e1 hn hlen h
      | ok a => exact unary_pok toks en i n m a h40 hi _ n e1 hn hlen h
  · rw [e1]
    dsimp only
    have h := hd' (n + 1) (by omega)
    cases e : un' (n + 1) with
    | mk r m =>
      rw [e] at h
      cases r with
      | bad p c => exact unary_ubad toks en i n m p c h40 hi s (n + 1) e1 hn hlen h
      | ok a => exact unary_uok toks en i n m a h40 hi s (n + 1) e1 hn hlen h
theorem within_does {toks : List Tok} {en i : Int} {form' : PF} (hlen : toks.length ≤ 1000000) (hi : 0 ≤ i) (h40 : ¬ 40 < i) (hs : Fit toks form') (hd' : DoesF 51 toks en (i + 1) form') : DoesF 135 toks en i (withinF toks en form') := by
  intro n hn
  have h := hd' n hn
  unfold withinF
  cases e : form' n with
  | mk r m =>
    have hm := hs.le hn e
    rw [e] at h
    cases r with
    | bad p c => exact within_bad toks en i n m p c ⟨hi, by omega⟩ h
    | ok a =>
      dsimp only
      rcases sign_cases toks m [⟨#[41]⟩] with e1 | ⟨s, e1, hlt⟩
      · rw [e1]; exact within_open toks en i n m a ⟨hi, by omega⟩ h _ m e1 hm.2 hlen hm.2
      · rw [e1]; exact within_ok toks en i n m a ⟨hi, by omega⟩ h s (m + 1) e1 hm.2 hlen
theorem parse_some (s : ByteArray) (hs : s.size ≤ 9223372036854775807) : ∃ r c b, addr_Parse.f s = some (r, c, b) := by
  unfold addr_Parse.f; rw [if_pos hs]; exact ⟨_, _, _, rfl⟩
theorem cell_does {toks : List Tok} {en : Int} (hlen : toks.length ≤ 1000000) (hsz : ∀ t ∈ toks, t.f2.size ≤ 1000000) (n : Nat) (hn : n ≤ toks.length) :
    (∀ r c, cellF toks n = some (r, c) → CellOk toks en n r c (n + 1)) ∧ (cellF toks n = none → CellBad toks en n (placeV toks en n) 13 n) := by
  unfold cellF
  cases e : toks[n]? with
  | none =>
    have := List.getElem?_eq_none_iff.1 e
    exact ⟨(fun _ _ h => by cases h), fun _ => cell_end toks en n hlen (by omega)⟩
  | some tk =>
    obtain ⟨hlt, hmem⟩ := List.getElem?_eq_some_iff.1 e
    have hsz' := hsz tk (hmem ▸ List.getElem_mem _)
    dsimp only
    by_cases h3 : tk.f0 = 3
    · rw [if_pos h3]
      by_cases ho : opensV toks n = true
      · rw [if_pos ho]; exact ⟨(fun _ _ h => by cases h), fun _ => cell_opens toks en n hlen tk e h3 ho⟩
      · rw [if_neg ho]
        have ho' : opensV toks n = false := by simpa using ho
        obtain ⟨r, c, b, ep⟩ := parse_some tk.f2 (by omega)
        rw [ep]
        cases b
        · exact ⟨(fun _ _ h => by cases h), fun _ => cell_none toks en n hlen tk e h3 ho' r c ep⟩
        · exact ⟨(fun r' c' h => by cases h; exact cell_ok toks en n hlen tk e h3 ho' r c ep), (fun h => by cases h)⟩
    · rw [if_neg h3]; exact ⟨(fun _ _ h => by cases h), fun _ => cell_kind toks en n hlen tk e h3⟩
theorem of_eq (s : ByteArray) : value_Of.f s = some (if s.size ≤ 200 then (3, 0, s) else (4, 7, ⟨#[]⟩)) := by
  unfold value_Of.f
  by_cases h : s.size ≤ 200
  · rw [if_neg (by omega), if_pos h]
  · rw [if_pos (by omega), if_neg h]
    unfold value_Fail.f; rw [if_neg (by omega), if_neg (by omega)]; rfl
theorem made_some (x y z u : Int) : addr_Made.f x y z u ≠ none := by
  have g : ∀ r c : Int, ∃ b, addr_Good.f r c = some b := by
    intro r c
    unfold addr_Good.f
    repeat' split
    all_goals exact ⟨_, rfl⟩
  obtain ⟨b1, e1⟩ := g x y
  obtain ⟨b2, e2⟩ := g z u
  unfold addr_Made.f
  rw [e1, Option.bind_some, e2]
  cases b1 <;> cases b2 <;> simp
theorem args_of {toks : List Tok} {en i : Int} {form' : PF} (s : ByteArray) (hf : Fit toks form') (hd : DoesF 51 toks en (i + 1) form') : ∀ (k : Nat) (l : List TN) (n : Nat), n ≤ toks.length → l.length + k = 10 → CallR toks en i s l n (argsF toks en form' s k l n) := by
  intro k
  induction k with
  | zero => intro l n hn hk; exact .full (by omega) hn
  | succ k ih =>
    intro l n hn hk
    have h := hd n hn
    unfold argsF
    cases e : form' n with
    | mk r m =>
      have hm := hf.le hn e
      rw [e] at h
      cases r with
      | bad p c => exact .bad (by omega) p c m h
      | ok a =>
        have hlt := hf.lt hn e
        dsimp only
        rcases sign_cases toks m [⟨#[44]⟩] with e1 | ⟨s1, e1, hl1⟩
        · rw [e1]
          dsimp only
          rcases sign_cases toks m [⟨#[41]⟩] with e2 | ⟨s2, e2, hl2⟩
          · rw [e2]; exact .open_ (by omega) a m h hm.2 _ m e1 hm.2 _ m e2 hm.2
          · rw [e2]; exact .done (by omega) a m h hm.2 _ m e1 hm.2 s2 (m + 1) e2
        · rw [e1]
          exact .more (by omega) a m h hm.2 hlt s1 (m + 1) e1 (by omega) (ih (l ++ [a]) (m + 1) (by omega) (by simp; omega))
theorem call_does {toks : List Tok} {en i : Int} {form' : PF} (hlen : toks.length ≤ 1000000) (hi : 0 ≤ i) (h40 : ¬ 40 < i) (s : ByteArray) (hs8 : s.size ≤ 1000000) (hf : Fit toks form') (hd : DoesF 51 toks en (i + 1) form') (n : Nat) (ho : opensV toks n = true) : DoesS 137 toks en i s n (callF toks en form' s n) := by
  have hn := opens_lt ho
  unfold callF
  by_cases h8 : 8 < s.size
  · rw [if_pos h8]; exact call_long toks en i s n hlen (by omega) h8 hs8
  · rw [if_neg h8]
    rcases sign_cases toks (n + 2) [⟨#[41]⟩] with e | ⟨s1, e, hlt⟩
    · rw [e]; exact call_args toks en i s n hlen hi h40 h8 (by omega) _ _ e _ (args_of s hf hd 10 [] (n + 2) (by omega) rfl)
    · rw [e]; exact call_none toks en i s n hlen h8 (by omega) s1 _ e
theorem name_does {toks : List Tok} {en i : Int} {form' : PF} (hlen : toks.length ≤ 1000000) (hsz : ∀ t ∈ toks, t.f2.size ≤ 1000000) (hi : 0 ≤ i) (h40 : ¬ 40 < i) (s : ByteArray) (hs8 : s.size ≤ 1000000) (hf : Fit toks form') (hd : DoesF 51 toks en (i + 1) form') (n : Nat) (hn : n < toks.length) : DoesS 134 toks en i s n (nameF toks en form' s n) := by
  unfold nameF
  by_cases h0 : opensV toks n = true
  · rw [if_pos h0]
    have h := call_does hlen hi h40 s hs8 hf hd n h0
    cases e : callF toks en form' s n with
    | mk r m =>
      rw [e] at h
      cases r with
      | bad p c => exact name_cbad toks en i s n (by omega) hlen h0 m p c h
      | ok a => exact name_cok toks en i s n (by omega) hlen h0 m a h
  · rw [if_neg h0]
    have ho : opensV toks n = false := by simpa using h0
    by_cases h1 : (s.toList == ([84, 82, 85, 69] : List UInt8)) = true
    · rw [if_pos h1]; exact name_true toks en i s n (by omega) hlen ho h1
    · rw [if_neg h1]
      have h1' : (s.toList == ([84, 82, 85, 69] : List UInt8)) = false := by simpa using h1
      by_cases h2 : (s.toList == ([70, 65, 76, 83, 69] : List UInt8)) = true
      · rw [if_pos h2]; exact name_false toks en i s n (by omega) hlen ho h1' h2
      · rw [if_neg h2]
        have h2' : (s.toList == ([70, 65, 76, 83, 69] : List UInt8)) = false := by simpa using h2
        have ha := cell_does (en := en) hlen hsz n (by omega)
        cases ea : cellF toks n with
        | none => exact name_abad toks en i s n (by omega) hlen ho h1' h2' n _ _ (ha.2 ea)
        | some x =>
          obtain ⟨r, c⟩ := x
          have hok := ha.1 r c ea
          dsimp only
          rcases sign_cases toks (n + 1) [⟨#[58]⟩] with e | ⟨s1, e, hlt⟩
          · rw [e]; exact name_cell toks en i s n (by omega) hlen ho h1' h2' r c (n + 1) hok _ _ e (by omega)
          · rw [e]
            have hb := cell_does (en := en) hlen hsz (n + 1 + 1) (by omega)
            dsimp only
            cases eb : cellF toks (n + 1 + 1) with
            | none => exact name_bbad toks en i s n (by omega) hlen ho h1' h2' r c (n + 1) hok s1 _ e (by omega) _ _ _ (hb.2 eb)
            | some y =>
              obtain ⟨x, y⟩ := y
              have hok2 := hb.1 x y eb
              dsimp only
              cases em : addr_Made.f r c x y with
              | none => exact absurd em (made_some r c x y)
              | some z =>
                obtain ⟨z1, z2, z3, z4, z5⟩ := z
                exact name_range toks en i s n (by omega) hlen ho h1' h2' r c (n + 1) hok s1 _ e (by omega) _ x y hok2 z1 z2 z3 z4 z5 em
theorem part_does {toks : List Tok} {en i : Int} {form' : PF} (hlen : toks.length ≤ 1000000) (hsz : ∀ t ∈ toks, t.f2.size ≤ 1000000) (hi : 0 ≤ i) (h40 : ¬ 40 < i) (hf : Fit toks form') (hd : DoesF 51 toks en (i + 1) form') : DoesF 132 toks en i (partF toks en form') := by
  intro n hn
  unfold partF
  cases e : toks[n]? with
  | none =>
    have := List.getElem?_eq_none_iff.1 e
    exact part_end toks en i n (by omega)
  | some tk =>
    obtain ⟨hlt, hmem⟩ := List.getElem?_eq_some_iff.1 e
    have hsz' := hsz tk (hmem ▸ List.getElem_mem _)
    dsimp only
    by_cases h1 : tk.f0 = 1
    · rw [if_pos h1]; exact part_int toks en i n tk e hlen h1
    · rw [if_neg h1]
      by_cases h2 : tk.f0 = 2
      · rw [if_pos h2]
        by_cases hs : tk.f2.size ≤ 200
        · rw [if_pos hs]; exact part_text toks en i n tk e hlen h2 (by rw [of_eq, if_pos hs])
        · rw [if_neg hs]; exact part_long toks en i n tk e hlen h2 (by rw [of_eq, if_neg hs])
      · rw [if_neg h2]
        by_cases h3 : tk.f0 = 3
        · rw [if_pos h3]
          have h := name_does hlen hsz hi h40 tk.f2 hsz' hf hd n hlt
          cases en_ : nameF toks en form' tk.f2 n with
          | mk r m =>
            rw [en_] at h
            cases r with
            | bad p c => exact part_nbad toks en i n tk e hlen h3 m p c h
            | ok a => exact part_nok toks en i n tk e hlen h3 m a h
        · rw [if_neg h3]
          by_cases h4 : tk.f0 = 4
          · rw [if_pos h4]
            rcases sign_cases toks n [⟨#[40]⟩] with e1 | ⟨s1, e1, hlt1⟩
            · rw [e1]; exact part_sign toks en i n tk e hlen h4 _ _ e1 hn
            · rw [e1]
              dsimp only
              have h := within_does hlen hi h40 hf hd (n + 1) (by omega)
              cases ew : withinF toks en form' (n + 1) with
              | mk r m =>
                rw [ew] at h
                cases r with
                | bad p c => exact part_wbad toks en i n tk e hlen h4 s1 _ e1 m p c h
                | ok a => exact part_wok toks en i n tk e hlen h4 s1 _ e1 m a h
          · rw [if_neg h4]; exact part_other toks en i n tk e hlen h1 h2 h3 h4
theorem lv_does {toks : List Tok} {en : Int} (hlen : toks.length ≤ 1000000) (hsz : ∀ t ∈ toks, t.f2.size ≤ 1000000) : ∀ (d : Nat) (i : Int), i + d = 41 → 0 ≤ i →
    DoesF 51 toks en i (lv toks en d).form ∧ DoesF 109 toks en i (lv toks en d).pow ∧ DoesF 125 toks en i (lv toks en d).un := by
  intro d
  induction d with
  | zero =>
    intro i hd hi
    exact ⟨fun n _ => formula_deep toks en i n (by omega), fun n _ => power_deep toks en i n (by omega), fun n _ => unary_deep toks en i n (by omega)⟩
  | succ d ih =>
    intro i hd hi
    obtain ⟨h1, h2, h3⟩ := ih (i + 1) (by omega) (by omega)
    obtain ⟨f1, f2, f3⟩ := fit_lv toks en d
    have h40 : ¬ 40 < i := by omega
    have hpart := part_does hlen hsz hi h40 f1 h1
    have fpart := fit_part (en := en) f1
    have hun := un_does hlen hi h40 hpart h3
    have fun_ := fit_un fpart f3
    have hpow := pow_does hlen hi h40 fun_ hun h2
    have fpow := fit_pow fun_ f2
    have hprod := prod_does hlen fpow hpow
    have fprod := fit_rows fpow prodL
    have hsum := sum_does hlen fprod hprod
    have fsum := fit_rows fprod sumL
    exact ⟨form_does hlen hi h40 fsum hsum, hpow, hun⟩
theorem formula_does {toks : List Tok} {en : Int} (hlen : toks.length ≤ 1000000) (hsz : ∀ t ∈ toks, t.f2.size ≤ 1000000) : Does 51 toks en 0 0 ((lv toks en 41).form 0) :=
  (lv_does hlen hsz 41 0 (by omega) (by omega)).1 0 (Nat.zero_le _)
end Go.Proofs.YtnomfbmebafolaaGreatDoor.P

namespace Go.Proofs.YtnomfbmebafolaaGreatDoor.P
open Go.RowKit Go.Extern.Stop Go.Stop Go.Extern
set_option linter.unusedVariables false
set_option linter.unusedSimpArgs false
theorem ea_nil (t : Value) (w : World) :
    Calls Tryz.prog 33 #[.nilIface, t] w fun e w' => e = .returned (.bool false) ∧ w' = w := by
  go_enter Tryz.func33, Tryz.ntmps33
  go_wp2
  go_ret
  exact ⟨rfl, rfl⟩
theorem ea_valueOf27 (t : Addr) (w : World) : (ReflectliteValue.unpack (.iface 80 (.pointer (some t)))).run Tryz.prog w
    = .ok (.agg #[.pointer (some ⟨10, 80, none⟩), .pointer (some ⟨w.heap.size, 0, none⟩), .int .u64 150]) (w.alloc (.cells #[.pointer (some t)] 80)) := by kernel_rfl
theorem ea_type27 (a : Addr) (w : World) : (ReflectliteValue.methodAny (ReflectliteValue.valueError "reflectlite.Value.Type" 0) (fun t _ _ _ => ReflectliteType.toType t) #[.agg #[.pointer (some ⟨10, 80, none⟩), .pointer (some a), .int .u64 150]]).run Tryz.prog w
    = .ok (.iface 145 (.agg #[.pointer (some ⟨10, 80, none⟩)])) w := by kernel_rfl
theorem ea_methodKind (h : Value) (w : World) : (Go.method 342 145 (.agg #[h]) "Kind").run Tryz.prog w = .ok (155, h) w := by kernel_rfl
theorem ea_kind27 (w : World) : ((ReflectliteType.abiMethod fun t => (fun a : Nat => Value.int IntKind.u8 (a : Int)) <$> Rtype.kind t) #[.pointer (some ⟨10, 80, none⟩)]).run Tryz.prog w = .ok (.int .u8 22) w := by kernel_rfl
theorem ea_kind25 (w : World) : ((ReflectliteType.abiMethod fun t => (fun a : Nat => Value.int IntKind.u8 (a : Int)) <$> Rtype.kind t) #[.pointer (some ⟨10, 78, none⟩)]).run Tryz.prog w = .ok (.int .u8 22) w := by kernel_rfl
theorem ea_rlm (z : Sem Value) (f : TypeId → Addr → Nat → Nat → Sem Value) (v : Value) :
    ReflectliteValue.method z f #[v] = (do match ← ReflectliteValue.parts v with | none => z | some (t, a, fl) => f t a fl (fl % 32)) := rfl
theorem ea_parts27 (a : Addr) (w : World) : (ReflectliteValue.parts (.agg #[.pointer (some ⟨10, 80, none⟩), .pointer (some a), .int .u64 150])).run Tryz.prog w = .ok (some (80, a, 150)) w := by kernel_rfl
theorem ea_isNil27 (a p : Addr) (W : World) (ha : W.cell? a = some (.pointer (some p))) :
    (ReflectliteValue.method (ReflectliteValue.valueError "reflectlite.Value.IsNil" 0) ReflectliteValue.isNil #[.agg #[.pointer (some ⟨10, 80, none⟩), .pointer (some a), .int .u64 150]]).run Tryz.prog W = .ok (.bool false) W := by
  rw [ea_rlm]
  simp only [Sem.run_bind, ea_parts27, Result.andThen]
  simp [ReflectliteValue.isNil, loadVar, isAgg, underlying, Tryz.underlying80, ha, Result.andThen]
theorem ea_methodElem (h : Value) (w : World) : (Go.method 342 145 (.agg #[h]) "Elem").run Tryz.prog w = .ok (169, .agg #[h]) w := by kernel_rfl
theorem ea_methodImplements (h : Value) (w : World) : (Go.method 342 145 (.agg #[h]) "Implements").run Tryz.prog w = .ok (170, .agg #[h]) w := by kernel_rfl
theorem ea_methodAssignableTo (h : Value) (w : World) : (Go.method 342 145 (.agg #[h]) "AssignableTo").run Tryz.prog w = .ok (167, .agg #[h]) w := by kernel_rfl
theorem ea_elem27 (w : World) : (ReflectliteType.method ReflectliteType.elem #[.agg #[.pointer (some ⟨10, 80, none⟩)]]).run Tryz.prog w = .ok (.iface 145 (.agg #[.pointer (some ⟨10, 78, none⟩)])) w := by kernel_rfl
theorem ea_implements25 (w : World) : (ReflectliteType.relation "Implements" ReflectliteType.implements_ #[.agg #[.pointer (some ⟨10, 78, none⟩)], .iface 145 (.agg #[.pointer (some ⟨10, 64, none⟩)])]).run Tryz.prog w = .ok (.bool true) w := by kernel_rfl
theorem ea_typeOf25 (v : Value) (w : World) : (ReflectliteType.typeOf #[.iface 78 v]).run Tryz.prog w = .ok (.iface 145 (.agg #[.pointer (some ⟨10, 78, none⟩)])) w := by kernel_rfl
theorem ea_assignable25 (w : World) : (ReflectliteType.relation "AssignableTo" ReflectliteType.assignableTo #[.agg #[.pointer (some ⟨10, 78, none⟩)], .iface 145 (.agg #[.pointer (some ⟨10, 78, none⟩)])]).run Tryz.prog w = .ok (.bool true) w := by kernel_rfl
theorem ea_valueOf25 (e : Addr) (w : World) : (ReflectliteValue.unpack (.iface 78 (.pointer (some e)))).run Tryz.prog w
    = .ok (.agg #[.pointer (some ⟨10, 78, none⟩), .pointer (some ⟨w.heap.size, 0, none⟩), .int .u64 150]) (w.alloc (.cells #[.pointer (some e)] 78)) := by kernel_rfl
theorem ea_elemOf27 (w : World) : (Rtype.elem? 80).run Tryz.prog w = .ok (some 78) w := by kernel_rfl
theorem ea_mk25 (p : Addr) (w : World) : (ReflectliteValue.mk 78 p ReflectliteValue.flagAddr).run Tryz.prog w = .ok (.agg #[.pointer (some ⟨10, 78, none⟩), .pointer (some p), .int .u64 406]) w := by kernel_rfl
theorem ea_elemV27 (a p : Addr) (W : World) (ha : W.cell? a = some (.pointer (some p))) :
    (ReflectliteValue.method (ReflectliteValue.valueError "reflectlite.Value.Elem" 0) ReflectliteValue.elem #[.agg #[.pointer (some ⟨10, 80, none⟩), .pointer (some a), .int .u64 150]]).run Tryz.prog W
      = .ok (.agg #[.pointer (some ⟨10, 78, none⟩), .pointer (some p), .int .u64 406]) W := by
  rw [ea_rlm]
  simp only [Sem.run_bind, ea_parts27, Result.andThen]
  simp [ReflectliteValue.elem, loadVar, isAgg, underlying, Tryz.underlying80, ha, Result.andThen, ea_elemOf27, ea_mk25]
theorem ea_rls (v x : Value) : ReflectliteValue.set #[v, x] = (do
    let (some (dst, a, fl), some (src, b, _)) := (← ReflectliteValue.parts v, ← ReflectliteValue.parts x)
      | unsupported (.noEntry "extern/(internal/reflectlite.Value).Set.zeroValue")
    if fl / ReflectliteValue.flagAddr % 2 == 0 then unsupported (.noEntry "extern/(internal/reflectlite.Value).Set.unaddressable")
    let val ← loadVar src b
    if ← Rtype.directlyAssignable dst src then storeVar dst a val
    else if ← Rtype.implements dst src then
      if (← Rtype.kind src) == 20 then
        match val with
        | .nilIface => unsupported (.noEntry "extern/reflectlite: a nil value of one interface type handed on as a value of another")
        | _ => storeVar dst a val
      else storeVar dst a (.iface src val)
    else panicString ("reflectlite.Set: value of type " ++ (← Rtype.spelt src) ++ " is not assignable to type " ++ (← Rtype.spelt dst))
    pure (.tuple #[])) := rfl
theorem ea_parts25a (a : Addr) (w : World) : (ReflectliteValue.parts (.agg #[.pointer (some ⟨10, 78, none⟩), .pointer (some a), .int .u64 406])).run Tryz.prog w = .ok (some (78, a, 406)) w := by kernel_rfl
theorem ea_parts25 (a : Addr) (w : World) : (ReflectliteValue.parts (.agg #[.pointer (some ⟨10, 78, none⟩), .pointer (some a), .int .u64 150])).run Tryz.prog w = .ok (some (78, a, 150)) w := by kernel_rfl
theorem ea_direct25 (w : World) : (Rtype.directlyAssignable 78 78).run Tryz.prog w = .ok true w := by kernel_rfl
theorem ea_set25 (ta b e : Addr) (old : Value) (W : World) (hb : W.cell? b = some (.pointer (some e))) (ht : W.cell? ta = some old) (hf : W.frozen? ta = false) :
    (ReflectliteValue.set #[.agg #[.pointer (some ⟨10, 78, none⟩), .pointer (some ta), .int .u64 406], .agg #[.pointer (some ⟨10, 78, none⟩), .pointer (some b), .int .u64 150]]).run Tryz.prog W
      = .ok (.tuple #[]) (W.setCell ta (.pointer (some e))) := by
  rw [ea_rls]
  simp only [Sem.run_bind, ea_parts25a, ea_parts25, Result.andThen]
  simp [ReflectliteValue.flagAddr, loadVar, isAgg, underlying, Tryz.underlying78, hb, Result.andThen, ea_direct25, storeVar, Value.cells, storeCells, Addr.add]
  rw [run_store Tryz.prog W ta _ _ (by rfl)]
  simp [ht, hf]
set_option maxHeartbeats 4000000 in
theorem ea_hit (e t : Addr) (old : Value) (w : World) (hg : w.cell? ⟨1, 0, none⟩ = some (.iface 145 (.agg #[.pointer (some ⟨10, 64, none⟩)]))) (ht0 : w.cell? t = some old) (hf0 : w.frozen? t = false) :
    Calls Tryz.prog 33 #[.iface 78 (.pointer (some e)), .iface 80 (.pointer (some t))] w fun ev w' => ev = .returned (.bool true) ∧ w' = ((((w.alloc (.cells #[.pointer (some t)] 80)).alloc (.cells #[.pointer (some ⟨10, 80, none⟩), .pointer (some ⟨w.heap.size, 0, none⟩), .int .u64 150] 112)).alloc (.cells #[.pointer (some ⟨10, 80, none⟩), .pointer (some ⟨w.heap.size, 0, none⟩), .int .u64 150] 112)).alloc (.cells #[.pointer (some e)] 78)).setCell t (.pointer (some e)) := by
  have h6 := @run_callFunc_extern Tryz.prog 53 _ (fun args => ReflectliteValue.unpack (args.getD 0 (.tuple #[]))) Tryz.func53 (by kernel_rfl) (by kernel_rfl) (by kernel_rfl) (by kernel_rfl)
  have h7 := @run_callFunc_extern Tryz.prog 54 _ (ReflectliteValue.methodAny (ReflectliteValue.valueError "reflectlite.Value.Type" 0) (fun t _ _ _ => ReflectliteType.toType t)) Tryz.func54 (by kernel_rfl) (by kernel_rfl) (by kernel_rfl) (by kernel_rfl)
  have h8 := @run_callFunc_extern Tryz.prog 55 _ (ReflectliteValue.method (ReflectliteValue.valueError "reflectlite.Value.IsNil" 0) ReflectliteValue.isNil) Tryz.func55 (by kernel_rfl) (by kernel_rfl) (by kernel_rfl) (by kernel_rfl)
  have h27 := @run_callFunc_extern Tryz.prog 155 _ (ReflectliteType.abiMethod fun t => do pure (.int .u8 (← Rtype.kind t))) Tryz.func155 (by kernel_rfl) (by kernel_rfl) (by kernel_rfl) (by kernel_rfl)
  have h37 := @run_callFunc_extern Tryz.prog 169 _ (ReflectliteType.method ReflectliteType.elem) Tryz.func169 (by kernel_rfl) (by kernel_rfl) (by kernel_rfl) (by kernel_rfl)
  have h38 := @run_callFunc_extern Tryz.prog 170 _ (ReflectliteType.relation "Implements" ReflectliteType.implements_) Tryz.func170 (by kernel_rfl) (by kernel_rfl) (by kernel_rfl) (by kernel_rfl)
  have h10 := @run_callFunc_extern Tryz.prog 61 _ ReflectliteType.typeOf Tryz.func61 (by kernel_rfl) (by kernel_rfl) (by kernel_rfl) (by kernel_rfl)
  have h35 := @run_callFunc_extern Tryz.prog 167 _ (ReflectliteType.relation "AssignableTo" ReflectliteType.assignableTo) Tryz.func167 (by kernel_rfl) (by kernel_rfl) (by kernel_rfl) (by kernel_rfl)
  have h11 := @run_callFunc_extern Tryz.prog 78 _ (ReflectliteValue.method (ReflectliteValue.valueError "reflectlite.Value.Elem" 0) ReflectliteValue.elem) Tryz.func78 (by kernel_rfl) (by kernel_rfl) (by kernel_rfl) (by kernel_rfl)
  have h12 := @run_callFunc_extern Tryz.prog 79 _ ReflectliteValue.set Tryz.func79 (by kernel_rfl) (by kernel_rfl) (by kernel_rfl) (by kernel_rfl)
  have tO := ea_typeOf25
  have mA := ea_methodAssignableTo
  have a25 := ea_assignable25
  have v25 := ea_valueOf25
  have f6 := ea_valueOf27
  have f7 := ea_type27
  have mK := ea_methodKind
  have mE := ea_methodElem
  have mI := ea_methodImplements
  have k27 := ea_kind27
  have k25 := ea_kind25
  have e27 := ea_elem27
  have i25 := ea_implements25
  have n8 := ea_isNil27 ⟨w.heap.size, 0, none⟩ t ((w.alloc (.cells #[.pointer (some t)] 80)).alloc (.cells #[.pointer (some ⟨10, 80, none⟩), .pointer (some ⟨w.heap.size, 0, none⟩), .int .u64 150] 112)) (by simp)
  have hlt : 1 < w.heap.size := World.block_lt_of_cell? w _ hg
  have hg2 : ((w.alloc (.cells #[.pointer (some t)] 80)).alloc (.cells #[.pointer (some ⟨10, 80, none⟩), .pointer (some ⟨w.heap.size, 0, none⟩), .int .u64 150] 112)).cell? ⟨1, 0, none⟩ = some (.iface 145 (.agg #[.pointer (some ⟨10, 64, none⟩)])) := by
    rw [World.cell?_alloc_lt _ _ ⟨1, 0, none⟩ (by simp; try omega), World.cell?_alloc_lt _ _ ⟨1, 0, none⟩ hlt]; exact hg
  have htl : t.block < w.heap.size := by
    rcases Nat.lt_or_ge t.block w.heap.size with h | h
    · exact h
    · simp [World.cell?, Array.getElem?_eq_none h] at ht0
  have el := ea_elemV27 ⟨w.heap.size, 0, none⟩ t (((w.alloc (.cells #[.pointer (some t)] 80)).alloc (.cells #[.pointer (some ⟨10, 80, none⟩), .pointer (some ⟨w.heap.size, 0, none⟩), .int .u64 150] 112)).alloc (.cells #[.pointer (some ⟨10, 80, none⟩), .pointer (some ⟨w.heap.size, 0, none⟩), .int .u64 150] 112)) (by rw [World.cell?_alloc_lt _ _ ⟨w.heap.size, 0, none⟩ (by simp; omega)]; simp)
  have st := ea_set25 t ⟨w.heap.size + 1 + 1 + 1, 0, none⟩ e old ((((w.alloc (.cells #[.pointer (some t)] 80)).alloc (.cells #[.pointer (some ⟨10, 80, none⟩), .pointer (some ⟨w.heap.size, 0, none⟩), .int .u64 150] 112)).alloc (.cells #[.pointer (some ⟨10, 80, none⟩), .pointer (some ⟨w.heap.size, 0, none⟩), .int .u64 150] 112)).alloc (.cells #[.pointer (some e)] 78))
    (by rw [World.cell?_alloc_at _ _ _ _ (by simp)]; rfl)
    (by rw [World.cell?_alloc_lt _ _ t (by simp; omega), World.cell?_alloc_lt _ _ t (by simp; omega), World.cell?_alloc_lt _ _ t (by simp; omega), World.cell?_alloc_lt _ _ t htl]; exact ht0)
    (by rw [World.frozen?_alloc_old _ _ t (by simp; omega), World.frozen?_alloc_old _ _ t (by simp; omega), World.frozen?_alloc_old _ _ t (by simp; omega), World.frozen?_alloc_old _ _ t (Nat.ne_of_lt htl)]; exact hf0)
  go_enter Tryz.func33, Tryz.ntmps33
  go_wp2
  refine wp_loop_rounds 1 ?_
  rw [rounds_succ]
  go_wp2
  go_ret
  exact ⟨rfl, rfl⟩
end Go.Proofs.YtnomfbmebafolaaGreatDoor.P

namespace Go.Proofs.YtnomfbmebafolaaGreatDoor.P
open Go.RowKit Go.Proofs.YtnomfbmebafolaaGreatDoorW.PrintWords Go.Proofs.YtnomfbmebafolaaGreatDoorW.PrintLast Go.Proofs.YtnomfbmebafolaaGreatDoorW.PrintMore
set_option linter.unusedVariables false
set_option linter.unusedSimpArgs false
def strings_IndexByte.f (a0 : ByteArray) (a1 : Int) : Option Int := some (Lib.indexByte a0.data.toList a1.toNat.toUInt8)
theorem strings_IndexByte.calls (a0 : ByteArray) (a1 : Int) (r : Int) (w : World) (h : strings_IndexByte.f a0 a1 = some r) :
    Calls Tryz.prog 85 #[.string a0, .int .u8 a1] w fun e w' => e = .returned (.int .i64 r) ∧ Below w.heap.size w w' := by
  injection h with h
  subst h
  refine (Tryz.strings_IndexByte a0 a1 w).mono ?_
  rintro e w' ⟨rfl, rfl⟩
  exact ⟨rfl, Below.refl _ _⟩
end Go.Proofs.YtnomfbmebafolaaGreatDoor.P

namespace Go.Proofs.YtnomfbmebafolaaGreatDoor.P
open Go.RowKit Go.Proofs.YtnomfbmebafolaaGreatDoorW.PrintWords Go.Proofs.YtnomfbmebafolaaGreatDoorW.PrintLast Go.Proofs.YtnomfbmebafolaaGreatDoorW.PrintMore
attribute [local go_sem] max2_int min2_int max_two min_two max_three min_three max_four min_four   -- for this text's walks alone
set_option linter.unusedVariables false
set_option linter.unusedSimpArgs false
mutual
def lex_kind.j0 : Nat → Int → Bool → Option (Int)
  | 0, _, _ => none
  | k + 1, x0, x3 => if x3 = true then (some 3) else (if x0 ≥ 65 then (lex_kind.j1 k x0 (decide (x0 ≤ 90))) else (lex_kind.j1 k x0 false))
def lex_kind.j1 : Nat → Int → Bool → Option (Int)
  | 0, _, _ => none
  | k + 1, x0, x10 => if x10 = true then (some 3) else (if x0 ≥ 48 then (lex_kind.j2 k x0 (decide (x0 ≤ 57))) else (lex_kind.j2 k x0 false))
def lex_kind.j2 : Nat → Int → Bool → Option (Int)
  | 0, _, _ => none
  | k + 1, x0, x17 => if x17 = true then (some 2) else (if x0 = 32 then (some 1) else (if x0 = 34 then (some 4) else ((strings_IndexByte.f (⟨#[43, 45, 42, 47, 37, 94, 38, 61, 60, 62, 40, 41, 44, 58]⟩ : ByteArray) x0).bind fun t101 => (if t101 ≥ 0 then (some 5) else (some 0)))))
end
def lex_kind.f (k : Nat) (a0 : Int) : Option (Int) := if a0 ≥ 97 then (lex_kind.j0 k a0 (decide (a0 ≤ 122))) else (lex_kind.j0 k a0 false)
set_option maxHeartbeats 8000000 in
set_option maxRecDepth 100000 in
theorem lex_kind.calls (k : Nat) (a0 : Int) (r : Int) (w : World) (h : lex_kind.f k a0 = some r) :
    Calls Tryz.prog 71 #[.int .u8 a0] w fun e w' => e = .returned (.int .i64 r) ∧ Below w.heap.size w w' := by
  have HB := Aside0.mk (Below.refl w.heap.size w)
  have H : (if a0 ≥ 97 then (lex_kind.j0 k a0 (decide (a0 ≤ 122))) else (lex_kind.j0 k a0 false)) = some r := h
  clear h
  have HC2 := Aside0.mk H
  clear H
  go_enter Tryz.func71, Tryz.ntmps71
  go_upto_region 1 with (fail)
  go_cut [3] (fun v3 wc => ∃ (kq : Nat) (x3_1 : Bool), v3 = .bool x3_1 ∧ Aside0 (lex_kind.j0 kq a0 x3_1 = some r) ∧ Aside0 (kq ≤ k) ∧ Aside0 (Below w.heap.size w wc))
  case first =>
    have H := HC2.out
    clear HC2
    by_cases c3 : a0 ≥ 97
    · rw [if_pos c3] at H
      have c3b0 : decide (97 ≤ a0) = true := decide_eq_true c3
      clear c3
      (first | rw [c3b0] | (simp only [i64_w, i32_w]; rw [c3b0]) | skip)
      have H' := Aside0.mk H
      clear H
      go_wp2
      go_meet
      case rel => exact ⟨_, (decide (a0 ≤ 122)), (by first | rfl | (simp; done) | (simp [*]; done)), H', ⟨by first | omega | exact Nat.le_refl _⟩, ⟨by repeat first | with_reducible exact HB.out | apply zS | exact HB.out⟩⟩
    · rw [if_neg c3] at H
      have c3b0 : decide (97 ≤ a0) = false := decide_eq_false c3
      clear c3
      (first | rw [c3b0] | (simp only [i64_w, i32_w]; rw [c3b0]) | skip)
      have H' := Aside0.mk H
      clear H
      go_wp2
      go_meet
      case rel => exact ⟨_, (false), (by first | rfl | (simp; done) | (simp [*]; done)), H', ⟨by first | omega | exact Nat.le_refl _⟩, ⟨by repeat first | with_reducible exact HB.out | apply zS | exact HB.out⟩⟩
  case rest =>
    clear HC2
    try clear p2
    try clear c3
    try clear c3b0
    obtain ⟨kq, x3_1, rfl, HA, HJ1, HB⟩ := hcut
    cases kq with
    | zero => exact absurd HA.out (by simp [lex_kind.j0])
    | succ kj1 =>
      have H := HA.out
      clear HA
      simp only [lex_kind.j0] at H
      by_cases c4 : x3_1 = true
      · subst c4
        have H1 : (some 3) = some r := by rw [if_pos rfl] at H; exact H
        clear H
        have H := H1
        clear H1
        obtain rfl := Option.some.inj H
        go_wp2
        go_ret
        exact ⟨by first | rfl | (simp [errW_none, errW_some] <;> rfl) | (simp [*, errW_none, errW_some] <;> rfl), by repeat first | with_reducible exact HB.out | apply zS | exact HB.out⟩
      · replace c4 := Bool.eq_false_iff.mpr c4
        subst c4
        have H1 : (if a0 ≥ 65 then (lex_kind.j1 kj1 a0 (decide (a0 ≤ 90))) else (lex_kind.j1 kj1 a0 false)) = some r := by rw [if_neg (show ¬ (false = true) by decide)] at H; exact H
        clear H
        have H := H1
        clear H1
        have HC5 := Aside0.mk H
        clear H
        go_upto_region 2 with (fail)
        go_cut [10] (fun v10 wc => ∃ (kq : Nat) (x10_4 : Bool), v10 = .bool x10_4 ∧ Aside0 (lex_kind.j1 kq a0 x10_4 = some r) ∧ Aside0 (kq ≤ kj1) ∧ Aside0 (Below w.heap.size w wc))
        case first =>
          have H := HC5.out
          clear HC5
          by_cases c6 : a0 ≥ 65
          · rw [if_pos c6] at H
            have c6b0 : decide (65 ≤ a0) = true := decide_eq_true c6
            clear c6
            (first | rw [c6b0] | (simp only [i64_w, i32_w]; rw [c6b0]) | skip)
            have H' := Aside0.mk H
            clear H
            go_wp2
            go_meet
            case rel => exact ⟨_, (decide (a0 ≤ 90)), (by first | rfl | (simp; done) | (simp [*]; done)), H', ⟨by have := HJ1.out; first | omega | exact Nat.le_refl _⟩, ⟨by repeat first | with_reducible exact HB.out | apply zS | exact HB.out⟩⟩
          · rw [if_neg c6] at H
            have c6b0 : decide (65 ≤ a0) = false := decide_eq_false c6
            clear c6
            (first | rw [c6b0] | (simp only [i64_w, i32_w]; rw [c6b0]) | skip)
            have H' := Aside0.mk H
            clear H
            go_wp2
            go_meet
            case rel => exact ⟨_, (false), (by first | rfl | (simp; done) | (simp [*]; done)), H', ⟨by have := HJ1.out; first | omega | exact Nat.le_refl _⟩, ⟨by repeat first | with_reducible exact HB.out | apply zS | exact HB.out⟩⟩
        case rest =>
          clear HC5
          try clear p2
          try clear c3
          try clear c3b0
          try clear c4
          try clear c6
          try clear c6b0
          try clear p2
          obtain ⟨kq, x10_4, rfl, HA, HJ4, HB⟩ := hcut
          cases kq with
          | zero => exact absurd HA.out (by simp [lex_kind.j1])
          | succ kj4 =>
            have H := HA.out
            clear HA
            simp only [lex_kind.j1] at H
            by_cases c7 : x10_4 = true
            · subst c7
              have H1 : (some 3) = some r := by rw [if_pos rfl] at H; exact H
              clear H
              have H := H1
              clear H1
              obtain rfl := Option.some.inj H
              go_wp2
              go_ret
              exact ⟨by first | rfl | (simp [errW_none, errW_some] <;> rfl) | (simp [*, errW_none, errW_some] <;> rfl), by repeat first | with_reducible exact HB.out | apply zS | exact HB.out⟩
            · replace c7 := Bool.eq_false_iff.mpr c7
              subst c7
              have H1 : (if a0 ≥ 48 then (lex_kind.j2 kj4 a0 (decide (a0 ≤ 57))) else (lex_kind.j2 kj4 a0 false)) = some r := by rw [if_neg (show ¬ (false = true) by decide)] at H; exact H
              clear H
              have H := H1
              clear H1
              have HC8 := Aside0.mk H
              clear H
              go_upto_region 3 with (fail)
              go_cut [17] (fun v17 wc => ∃ (kq : Nat) (x17_7 : Bool), v17 = .bool x17_7 ∧ Aside0 (lex_kind.j2 kq a0 x17_7 = some r) ∧ Aside0 (kq ≤ kj4) ∧ Aside0 (Below w.heap.size w wc))
              case first =>
                have H := HC8.out
                clear HC8
                by_cases c9 : a0 ≥ 48
                · rw [if_pos c9] at H
                  have c9b0 : decide (48 ≤ a0) = true := decide_eq_true c9
                  clear c9
                  (first | rw [c9b0] | (simp only [i64_w, i32_w]; rw [c9b0]) | skip)
                  have H' := Aside0.mk H
                  clear H
                  go_wp2
                  go_meet
                  case rel => exact ⟨_, (decide (a0 ≤ 57)), (by first | rfl | (simp; done) | (simp [*]; done)), H', ⟨by have := HJ1.out; have := HJ4.out; first | omega | exact Nat.le_refl _⟩, ⟨by repeat first | with_reducible exact HB.out | apply zS | exact HB.out⟩⟩
                · rw [if_neg c9] at H
                  have c9b0 : decide (48 ≤ a0) = false := decide_eq_false c9
                  clear c9
                  (first | rw [c9b0] | (simp only [i64_w, i32_w]; rw [c9b0]) | skip)
                  have H' := Aside0.mk H
                  clear H
                  go_wp2
                  go_meet
                  case rel => exact ⟨_, (false), (by first | rfl | (simp; done) | (simp [*]; done)), H', ⟨by have := HJ1.out; have := HJ4.out; first | omega | exact Nat.le_refl _⟩, ⟨by repeat first | with_reducible exact HB.out | apply zS | exact HB.out⟩⟩
              case rest =>
                clear HC8
                try clear p2
                try clear c3
                try clear c3b0
                try clear c4
                try clear c6
                try clear c6b0
                try clear c7
                try clear c9
                try clear c9b0
                try clear p2
                obtain ⟨kq, x17_7, rfl, HA, HJ7, HB⟩ := hcut
                cases kq with
                | zero => exact absurd HA.out (by simp [lex_kind.j2])
                | succ kj7 =>
                  have H := HA.out
                  clear HA
                  simp only [lex_kind.j2] at H
                  by_cases c10 : x17_7 = true
                  · subst c10
                    have H1 : (some 2) = some r := by rw [if_pos rfl] at H; exact H
                    clear H
                    have H := H1
                    clear H1
                    obtain rfl := Option.some.inj H
                    go_wp2
                    go_ret
                    exact ⟨by first | rfl | (simp [errW_none, errW_some] <;> rfl) | (simp [*, errW_none, errW_some] <;> rfl), by repeat first | with_reducible exact HB.out | apply zS | exact HB.out⟩
                  · replace c10 := Bool.eq_false_iff.mpr c10
                    subst c10
                    have H1 : (if a0 = 32 then (some 1) else (if a0 = 34 then (some 4) else ((strings_IndexByte.f (⟨#[43, 45, 42, 47, 37, 94, 38, 61, 60, 62, 40, 41, 44, 58]⟩ : ByteArray) a0).bind fun t101 => (if t101 ≥ 0 then (some 5) else (some 0))))) = some r := by rw [if_neg (show ¬ (false = true) by decide)] at H; exact H
                    clear H
                    have H := H1
                    clear H1
                    by_cases c11 : a0 = 32
                    · rw [if_pos c11] at H
                      have c11b0 : (a0 == 32) = true := beq_iff_eq.mpr c11
                      have c11b1 : (a0 != 32) = false := bne_eq_false_iff_eq.mpr c11
                      clear c11
                      obtain rfl := Option.some.inj H
                      go_wp2
                      go_ret
                      exact ⟨by first | rfl | (simp [errW_none, errW_some] <;> rfl) | (simp [*, errW_none, errW_some] <;> rfl), by repeat first | with_reducible exact HB.out | apply zS | exact HB.out⟩
                    · rw [if_neg c11] at H
                      have c11b0 : (a0 == 32) = false := beq_eq_false_iff_ne.mpr c11
                      have c11b1 : (a0 != 32) = true := bne_iff_ne.mpr c11
                      by_cases c12 : a0 = 34
                      · rw [if_pos c12] at H
                        have c12b0 : (a0 == 34) = true := beq_iff_eq.mpr c12
                        have c12b1 : (a0 != 34) = false := bne_eq_false_iff_eq.mpr c12
                        clear c12
                        obtain rfl := Option.some.inj H
                        go_wp2
                        go_ret
                        exact ⟨by first | rfl | (simp [errW_none, errW_some] <;> rfl) | (simp [*, errW_none, errW_some] <;> rfl), by repeat first | with_reducible exact HB.out | apply zS | exact HB.out⟩
                      · rw [if_neg c12] at H
                        have c12b0 : (a0 == 34) = false := beq_eq_false_iff_ne.mpr c12
                        have c12b1 : (a0 != 34) = true := bne_iff_ne.mpr c12
                        replace H := Option.bind_eq_some_iff.mp H
                        obtain ⟨t101, A130, H⟩ := H
                        replace H : (if t101 ≥ 0 then (some 5) else (some 0)) = some r := H
                        have A13 := Aside0.mk A130
                        clear A130
                        by_cases c14 : t101 ≥ 0
                        · rw [if_pos c14] at H
                          have c14b0 : decide (0 ≤ t101) = true := decide_eq_true c14
                          clear c14
                          obtain rfl := Option.some.inj H
                          go_wp2_with (first | ((with_reducible refine gate_callee (f := 85) rfl ?_); refine goesL_ (some 32) rfl rfl Tryz.func85 (by kernel_rfl) rfl #[.string (⟨#[43, 45, 42, 47, 37, 94, 38, 61, 60, 62, 40, 41, 44, 58]⟩ : ByteArray), .int .u8 a0] rfl (by (try simp only [List.map_toArray, List.map_cons, List.map_nil]); first | done | rfl | (simp only [List.length_drop, List.length_take]; rfl)) ?_; (with_reducible refine (strings_IndexByte.calls (⟨#[43, 45, 42, 47, 37, 94, 38, 61, 60, 62, 40, 41, 44, 58]⟩ : ByteArray) a0 t101 _ A13.out).mono ?_); rintro e w15 ⟨rfl, hb⟩; refine ⟨_, rfl, ?_⟩; have n0_ := Aside0.mk (below_step (by repeat first | with_reducible exact HB.out | apply zS | exact HB.out) hb); clear HB; have HB := n0_; clear n0_; (try clear hb); (try clear hb2); (try clear hk); (try clear hi)))
                          go_ret
                          exact ⟨by first | rfl | (simp [errW_none, errW_some] <;> rfl) | (simp [*, errW_none, errW_some] <;> rfl), by repeat first | with_reducible exact HB.out | apply zS | exact HB.out⟩
                        · rw [if_neg c14] at H
                          have c14b0 : decide (0 ≤ t101) = false := decide_eq_false c14
                          clear c14
                          obtain rfl := Option.some.inj H
                          go_wp2_with (first | ((with_reducible refine gate_callee (f := 85) rfl ?_); refine goesL_ (some 32) rfl rfl Tryz.func85 (by kernel_rfl) rfl #[.string (⟨#[43, 45, 42, 47, 37, 94, 38, 61, 60, 62, 40, 41, 44, 58]⟩ : ByteArray), .int .u8 a0] rfl (by (try simp only [List.map_toArray, List.map_cons, List.map_nil]); first | done | rfl | (simp only [List.length_drop, List.length_take]; rfl)) ?_; (with_reducible refine (strings_IndexByte.calls (⟨#[43, 45, 42, 47, 37, 94, 38, 61, 60, 62, 40, 41, 44, 58]⟩ : ByteArray) a0 t101 _ A13.out).mono ?_); rintro e w16 ⟨rfl, hb⟩; refine ⟨_, rfl, ?_⟩; have n0_ := Aside0.mk (below_step (by repeat first | with_reducible exact HB.out | apply zS | exact HB.out) hb); clear HB; have HB := n0_; clear n0_; (try clear hb); (try clear hb2); (try clear hk); (try clear hi)))
                          go_ret
                          exact ⟨by first | rfl | (simp [errW_none, errW_some] <;> rfl) | (simp [*, errW_none, errW_some] <;> rfl), by repeat first | with_reducible exact HB.out | apply zS | exact HB.out⟩
end Go.Proofs.YtnomfbmebafolaaGreatDoor.P

namespace Go.Proofs.YtnomfbmebafolaaGreatDoor.P
open Go.RowKit Go.Proofs.YtnomfbmebafolaaGreatDoorW.PrintWords Go.Proofs.YtnomfbmebafolaaGreatDoorW.PrintLast Go.Proofs.YtnomfbmebafolaaGreatDoorW.PrintMore
set_option linter.unusedVariables false
set_option linter.unusedSimpArgs false
def upC (c : UInt8) : UInt8 := if 97 ≤ c.toNat ∧ c.toNat ≤ 122 then c - 32 else c
def upL (l : List UInt8) : List UInt8 := l.map upC
def upS (s : ByteArray) : ByteArray := ⟨(upL s.data.toList).toArray⟩
theorem upC_no {c : UInt8} (h : ¬ (97 ≤ c.toNat ∧ c.toNat ≤ 122)) : upC c = c := if_neg h
theorem upC_yes {c : UInt8} (h : 97 ≤ c.toNat ∧ c.toNat ≤ 122) : (upC c).toNat = c.toNat - 32 := by
  unfold upC; rw [if_pos h, UInt8.toNat_sub_of_le]; rfl
  rw [UInt8.le_iff_toNat_le]; show 32 ≤ c.toNat; omega
def RowB (w : World) (e : TypeId) (g N : Nat) (l : List UInt8) : Prop :=
  ∃ cs : Array Value, w.heap[g]? = some (.cells cs e (N, N + 1)) ∧ cs.size = N ∧ l.length ≤ N ∧ ∀ (j : Nat) (x : UInt8), l[j]? = some x → cs[j]? = some (.int .u8 (x.toNat : Int))
theorem RowB.start (w : World) (e : TypeId) (s : ByteArray) : RowB (Lib.bytesWorld w e s) e w.heap.size (Lib.bytesCells w e s).size s.data.toList := by
  refine ⟨_, Lib.bytesWorld_at_new w e s, rfl, by simp [Lib.bytesCells], fun j x hx => ?_⟩
  have hj : j < s.data.size := by
    rcases Nat.lt_or_ge j s.data.size with h | h
    · exact h
    · rw [List.getElem?_eq_none (by simpa using h)] at hx; cases hx
  have hx' : s.data[j] = x := by
    rw [List.getElem?_eq_getElem (by simpa using hj)] at hx
    injection hx
  have hj' : j < s.size := hj
  simp [Lib.bytesCells, Array.getElem?_append, hj, hj', hx']
theorem RowB.cell {w : World} {e : TypeId} {g N : Nat} {l : List UInt8} (h : RowB w e g N l) {j : Nat} {x : UInt8} (hx : l[j]? = some x) : w.cell? ⟨g, j, none⟩ = some (.int .u8 (x.toNat : Int)) := by
  obtain ⟨cs, h1, h2, h3, h4⟩ := h
  simp [World.cell?, h1, h4 j x hx]
theorem RowB.frozen {w : World} {e : TypeId} {g N : Nat} {l : List UInt8} (h : RowB w e g N l) {j : Nat} (hj : j < l.length) : w.frozen? ⟨g, j, none⟩ = false := by
  obtain ⟨cs, h1, h2, h3, h4⟩ := h
  simp [World.frozen?, h1]; omega
theorem RowB.put {w : World} {e : TypeId} {g N : Nat} {l : List UInt8} (h : RowB w e g N l) (j : Nat) (y : UInt8) : RowB (w.setCell ⟨g, j, none⟩ (.int .u8 (y.toNat : Int))) e g N (l.set j y) := by
  obtain ⟨cs, h1, h2, h3, h4⟩ := h
  refine ⟨cs.setIfInBounds j (.int .u8 (y.toNat : Int)), ?_, by simpa using h2, by simpa using h3, fun i x hx => ?_⟩
  · have hg : g < w.heap.size := (Array.getElem?_eq_some_iff.1 h1).1
    have := (Array.getElem?_eq_some_iff.1 h1).2
    simp [World.setCell, Array.getElem?_modify, hg, this, Array.getElem_modify_self]
  · rw [List.getElem?_set] at hx
    rw [Array.getElem?_setIfInBounds]
    split at hx
    · rename_i hji; subst hji
      split at hx
      · injection hx with hx; subst hx
        rw [if_pos rfl, if_pos (by omega)]
      · cases hx
    · rename_i hji
      rw [if_neg hji]; exact h4 i x hx
theorem RowB.string {w : World} {e : TypeId} {g N : Nat} {l : List UInt8} (h : RowB w e g N l) (P : Program) (src dst : TypeId) (cap : Nat) (hs : P.underlying src = some (.slice e)) (he : P.underlying e = some (.int .u8)) (hd : P.underlying dst = some .string) :
    (convert src dst (.slice (some ⟨g, 0, none⟩) l.length cap)).run P w = .ok (.string ⟨l.toArray⟩) w := by
  have h1 := run_convert_bytes_arg (P := P) w src e hs he g 0 l.length cap (l.map fun x => (x.toNat : Int)) (by simp) (fun i hi => by
    rw [Nat.zero_add, h.cell (List.getElem?_eq_getElem hi)]
    simp [List.getD, List.getElem?_eq_getElem hi]) dst hd
  rw [h1]
  have : strOfNums (l.map fun x => (x.toNat : Int)) = ⟨l.toArray⟩ := by
    unfold strOfNums
    congr 1
    simp [Function.comp_def]
  rw [this]
theorem up_mid {l : List UInt8} {i : Nat} (hi : i < l.length) : (upL (l.take i) ++ l.drop i)[i]? = some l[i] := by
  unfold upL
  rw [List.getElem?_append_right (by simp; omega)]
  simp [Nat.min_eq_left (Nat.le_of_lt hi)]
theorem up_len (l : List UInt8) {i : Nat} (hi : i ≤ l.length) : (upL (l.take i) ++ l.drop i).length = l.length := by unfold upL; simp; omega
theorem up_next {l : List UInt8} {i : Nat} (hi : i < l.length) : (upL (l.take i) ++ l.drop i).set i (upC l[i]) = upL (l.take (i + 1)) ++ l.drop (i + 1) := by
  unfold upL
  rw [List.set_append_right _ _ (by simp; omega), List.take_succ_eq_append_getElem hi, List.map_append, List.append_assoc]
  congr 1
  rw [List.length_map, List.length_take, Nat.min_eq_left (by omega), Nat.sub_self, List.drop_eq_getElem_cons hi]
  rfl
theorem up_same {l : List UInt8} {i : Nat} (hi : i < l.length) (h : upC l[i] = l[i]) : upL (l.take i) ++ l.drop i = upL (l.take (i + 1)) ++ l.drop (i + 1) := by
  rw [← up_next hi, h]
  conv => rhs; rw [show l[i] = (upL (l.take i) ++ l.drop i)[i]'(by rw [up_len l (by omega)]; exact hi) from by
    have := up_mid hi
    rw [List.getElem?_eq_getElem (by rw [up_len l (by omega)]; exact hi)] at this
    injection this with this; exact this.symm]
  rw [List.set_getElem_self]
def lex_Upper.f (a0 : ByteArray) : Option ByteArray := if a0.size ≤ 140737488351232 then some (upS a0) else none
set_option maxHeartbeats 4000000 in
set_option maxRecDepth 100000 in
theorem lex_Upper.calls (a0 : ByteArray) (r : ByteArray) (w : World) (h : lex_Upper.f a0 = some r) :
    Calls Tryz.prog 90 #[.string a0] w fun e w' => e = .returned (.string r) ∧ Below w.heap.size w w' := by
  have hu9 := Tryz.underlying9
  have hu73 := Tryz.underlying35
  have hu5 := Tryz.underlying5
  unfold lex_Upper.f at h
  split at h
  case isFalse => cases h
  rename_i hsz
  injection h with h
  subst h
  have hl : a0.data.toList.length = a0.size := Array.length_toList
  have hcv := fun w => Lib.run_convert_string_bytes (P := Tryz.prog) w 9 35 5 a0 hu9 hu73 hu5
  go_enter Tryz.func90, Tryz.ntmps90
  have HR0 := Lib.hid (RowB.start w 5 a0)
  have HB0 := Lib.hid (bytes_below (Below.refl w.heap.size w) (Nat.le_refl _) 5 a0)
  have hgl := hl
  go_wp2
  go_loopg [10] a0.size (fun gg s10 wr => ∃ i : Nat, s10 = .int .i64 i ∧ i ≤ a0.size ∧ a0.size - i ≤ gg ∧ Hid (RowB wr 5 w.heap.size (Lib.bytesCells w 5 a0).size (upL (a0.data.toList.take i) ++ a0.data.toList.drop i)) ∧ Hid (Below w.heap.size w wr))
  case atStart => exact ⟨0, rfl, by omega, by omega, HR0, HB0⟩
  case round =>
    obtain ⟨i, rfl, hi, hgg, HR, HB⟩ := hrel
    by_cases hlt : i < a0.size
    · have hlt' : i < a0.data.toList.length := by omega
      have hltz : (i : Int) < (a0.size : Int) := by omega
      have hi0 : (0 : Int) ≤ (i : Int) := by omega
      have hc0 := HR.out.cell (up_mid hlt')
      have hz0 := HR.out.frozen (j := i) (by rw [up_len _ (by omega)]; exact hlt')
      by_cases hu : 97 ≤ (a0.data.toList[i]).toNat ∧ (a0.data.toList[i]).toNat ≤ 122
      · have hp := HR.out.put i (upC a0.data.toList[i])
        rw [up_next hlt', upC_yes hu] at hp
        generalize hx : (a0.data.toList[i]).toNat = x at hc0 hu hp
        have hg1 : (x : Int) ≥ 97 := by omega
        have hg2 : (x : Int) ≤ 122 := by omega
        rw [show ((x - 32 : Nat) : Int) = (x : Int) - 97 + 65 by omega] at hp
        have HP := Lib.hid hp
        clear hp hx
        go_wp2
        go_roundg (a0.size - (i + 1))
        case measure => omega
        case rel => exact ⟨i + 1, by go_num, by omega, by omega, HP, Lib.hid (below_set HB.out (Nat.le_refl _))⟩
      · have hs := up_same hlt' (upC_no hu)
        have HP := HR
        rw [hs] at HP
        generalize hx : (a0.data.toList[i]).toNat = x at hc0 hu
        clear hx hs
        by_cases h97 : 97 ≤ x
        · have hg1 : (x : Int) ≥ 97 := by omega
          have hg2 : ¬ (x : Int) ≤ 122 := by omega
          go_wp2
          go_roundg (a0.size - (i + 1))
          case measure => omega
          case rel => exact ⟨i + 1, by go_num, by omega, by omega, HP, HB⟩
        · have hg1 : ¬ (x : Int) ≥ 97 := by omega
          go_wp2
          go_roundg (a0.size - (i + 1))
          case measure => omega
          case rel => exact ⟨i + 1, by go_num, by omega, by omega, HP, HB⟩
    · have hi' : i = a0.size := by omega
      subst hi'
      have hltz : ¬ ((a0.size : Nat) : Int) < (a0.size : Int) := by omega
      have hs := HR.out.string Tryz.prog 35 9 (grownCap w a0.size 0 5) hu73 hu5 hu9
      rw [up_len _ (by omega), hl, List.take_of_length_le (by omega), List.drop_of_length_le (by omega), List.append_nil] at hs
      go_wp2
      go_ret
      exact ⟨rfl, HB.out⟩
end Go.Proofs.YtnomfbmebafolaaGreatDoor.P

namespace Go.Proofs.YtnomfbmebafolaaGreatDoor.P
open Go.RowKit Go.Proofs.YtnomfbmebafolaaGreatDoorW.PrintWords Go.Proofs.YtnomfbmebafolaaGreatDoorW.PrintLast Go.Proofs.YtnomfbmebafolaaGreatDoorW.PrintMore
set_option linter.unusedVariables false
set_option linter.unusedSimpArgs false
def num_Parse.f (a0 : ByteArray) : Option (Int × Bool) := if a0.size ≤ 281474976710656 then some (M.numParse a0.data.toList) else none
theorem bytesWorld_two {w w' : World} {e : TypeId} {s : ByteArray} (h : w' = w ∨ ∃ t, w' = Lib.bytesWorld w e t) : Below w.heap.size w w' := by
  rcases h with rfl | ⟨t, rfl⟩
  · exact Below.refl _ _
  · exact bytes_below (Below.refl _ _) (Nat.le_refl _) _ _
end Go.Proofs.YtnomfbmebafolaaGreatDoor.P

namespace Go.Proofs.YtnomfbmebafolaaGreatDoor.P
open Go.RowKit Go.Proofs.YtnomfbmebafolaaGreatDoorW.PrintWords Go.Proofs.YtnomfbmebafolaaGreatDoorW.PrintLast Go.Proofs.YtnomfbmebafolaaGreatDoorW.PrintMore
attribute [local go_sem] max2_int min2_int max_two min_two max_three min_three max_four min_four   -- for this text's walks alone
set_option linter.unusedVariables false
set_option linter.unusedSimpArgs false
def lex_signs.f (a0 : ByteArray) : Option (Int) := if (a0.size : Int) > 1 then (if 0 ≤ 2 then (if 2 ≤ (a0.size : Int) then (if (a0.extract 0 2).toList = ([60, 62] : List UInt8) then (some 2) else (if (a0.extract 0 2).toList = ([60, 61] : List UInt8) then (some 2) else (if (a0.extract 0 2).toList = ([62, 61] : List UInt8) then (some 2) else (some 1)))) else (none)) else (none)) else (some 1)
set_option maxHeartbeats 8000000 in
set_option maxRecDepth 100000 in
theorem lex_signs.calls (a0 : ByteArray) (r : Int) (w : World) (h : lex_signs.f a0 = some r) :
    Calls Tryz.prog 91 #[.string a0] w fun e w' => e = .returned (.int .i64 r) ∧ Drawn0 w w' := by
  have H : (if (a0.size : Int) > 1 then (if 0 ≤ 2 then (if 2 ≤ (a0.size : Int) then (if (a0.extract 0 2).toList = ([60, 62] : List UInt8) then (some 2) else (if (a0.extract 0 2).toList = ([60, 61] : List UInt8) then (some 2) else (if (a0.extract 0 2).toList = ([62, 61] : List UInt8) then (some 2) else (some 1)))) else (none)) else (none)) else (some 1)) = some r := h
  clear h
  by_cases c2 : (a0.size : Int) > 1
  · rw [if_pos c2] at H
    have c2b0 : decide (1 < (a0.size : Int)) = true := decide_eq_true c2
    have c2b1 : decide (1 < a0.size) = true := decide_eq_true (by omega)
    clear c2
    by_cases c3 : 0 ≤ 2
    · rw [if_pos c3] at H
      have c3b0 := eq_true c3
      have c3b1 : decide (0 ≤ 2) = true := decide_eq_true c3
      clear c3
      by_cases c4 : 2 ≤ (a0.size : Int)
      · rw [if_pos c4] at H
        have c4b0 := eq_true c4
        have c4b1 : decide (2 ≤ (a0.size : Int)) = true := decide_eq_true c4
        clear c4
        by_cases c5 : (a0.extract 0 2).toList = ([60, 62] : List UInt8)
        · rw [if_pos c5] at H
          have c5b0 : ((a0.extract 0 2).toList == ([60, 62] : List UInt8)) = true := beq_iff_eq.mpr c5
          have c5b1 : ((a0.extract 0 2).toList != ([60, 62] : List UInt8)) = false := bne_eq_false_iff_eq.mpr c5
          clear c5
          obtain rfl := Option.some.inj H
          go_enter Tryz.func91, Tryz.ntmps91
          go_wp2
          go_ret
          exact ⟨by first | rfl | (simp; done) | (simp [*]; done), by repeat (first | exact Drawn0.refl _ | apply Drawn0.step)⟩
        · rw [if_neg c5] at H
          have c5b0 : ((a0.extract 0 2).toList == ([60, 62] : List UInt8)) = false := beq_eq_false_iff_ne.mpr c5
          have c5b1 : ((a0.extract 0 2).toList != ([60, 62] : List UInt8)) = true := bne_iff_ne.mpr c5
          by_cases c6 : (a0.extract 0 2).toList = ([60, 61] : List UInt8)
          · rw [if_pos c6] at H
            have c6b0 : ((a0.extract 0 2).toList == ([60, 61] : List UInt8)) = true := beq_iff_eq.mpr c6
            have c6b1 : ((a0.extract 0 2).toList != ([60, 61] : List UInt8)) = false := bne_eq_false_iff_eq.mpr c6
            clear c6
            obtain rfl := Option.some.inj H
            go_enter Tryz.func91, Tryz.ntmps91
            go_wp2
            go_ret
            exact ⟨by first | rfl | (simp; done) | (simp [*]; done), by repeat (first | exact Drawn0.refl _ | apply Drawn0.step)⟩
          · rw [if_neg c6] at H
            have c6b0 : ((a0.extract 0 2).toList == ([60, 61] : List UInt8)) = false := beq_eq_false_iff_ne.mpr c6
            have c6b1 : ((a0.extract 0 2).toList != ([60, 61] : List UInt8)) = true := bne_iff_ne.mpr c6
            by_cases c7 : (a0.extract 0 2).toList = ([62, 61] : List UInt8)
            · rw [if_pos c7] at H
              have c7b0 : ((a0.extract 0 2).toList == ([62, 61] : List UInt8)) = true := beq_iff_eq.mpr c7
              have c7b1 : ((a0.extract 0 2).toList != ([62, 61] : List UInt8)) = false := bne_eq_false_iff_eq.mpr c7
              clear c7
              obtain rfl := Option.some.inj H
              go_enter Tryz.func91, Tryz.ntmps91
              go_wp2
              go_ret
              exact ⟨by first | rfl | (simp; done) | (simp [*]; done), by repeat (first | exact Drawn0.refl _ | apply Drawn0.step)⟩
            · rw [if_neg c7] at H
              have c7b0 : ((a0.extract 0 2).toList == ([62, 61] : List UInt8)) = false := beq_eq_false_iff_ne.mpr c7
              have c7b1 : ((a0.extract 0 2).toList != ([62, 61] : List UInt8)) = true := bne_iff_ne.mpr c7
              obtain rfl := Option.some.inj H
              go_enter Tryz.func91, Tryz.ntmps91
              go_wp2
              go_ret
              exact ⟨by first | rfl | (simp; done) | (simp [*]; done), by repeat (first | exact Drawn0.refl _ | apply Drawn0.step)⟩
      · rw [if_neg c4] at H
        exact absurd H (by simp)
    · rw [if_neg c3] at H
      exact absurd H (by simp)
  · rw [if_neg c2] at H
    have c2b0 : decide (1 < (a0.size : Int)) = false := decide_eq_false c2
    have c2b1 : decide (1 < a0.size) = false := decide_eq_false (by omega)
    clear c2
    obtain rfl := Option.some.inj H
    go_enter Tryz.func91, Tryz.ntmps91
    go_wp2
    go_ret
    exact ⟨by first | rfl | (simp; done) | (simp [*]; done), by repeat (first | exact Drawn0.refl _ | apply Drawn0.step)⟩
end Go.Proofs.YtnomfbmebafolaaGreatDoor.P

namespace Go.Proofs.YtnomfbmebafolaaGreatDoor.P
open Go.RowKit Go.Proofs.YtnomfbmebafolaaGreatDoorW.PrintWords Go.Proofs.YtnomfbmebafolaaGreatDoorW.PrintLast Go.Proofs.YtnomfbmebafolaaGreatDoorW.PrintMore
set_option linter.unusedVariables false
set_option linter.unusedSimpArgs false
def kindOf (c : Int) : Int := (lex_kind.f 20 c).getD 0
theorem kind_nat : ∀ c : Fin 256, lex_kind.f 20 (c.val : Int) = some (kindOf (c.val : Int)) := by decide +kernel
theorem kind_byte (c : UInt8) : lex_kind.f 20 (c.toNat : Int) = some (kindOf (c.toNat : Int)) := kind_nat ⟨c.toNat, c.toNat_lt⟩
theorem kind_bt (s : ByteArray) (i : Nat) : lex_kind.f 20 (bt s (i : Int)) = some (kindOf (bt s (i : Int))) := by rw [bt_bu]; exact kind_byte _
def PredK (g : Nat) (p : Int → Bool) : Prop :=
  ∀ (W : World) (x : Int), Calls Tryz.prog g #[.int .i64 x] W fun e w' => e = .returned (.bool (p x)) ∧ Below W.heap.size W w'
theorem pred_digit : PredK 87 (fun x => x == 2) := by
  intro W x
  go_enter Tryz.func87, Tryz.ntmps87
  go_wp2
  go_ret
  exact ⟨rfl, Below.refl _ _⟩
theorem pred_word : PredK 89 (fun x => x == 3 || x == 2) := by
  intro W x
  by_cases h3 : x = 3
  · subst h3
    go_enter Tryz.func89, Tryz.ntmps89
    go_wp2
    go_ret
    exact ⟨rfl, Below.refl _ _⟩
  · have h3b : (x == 3) = false := beq_eq_false_iff_ne.2 h3
    simp only [h3b, Bool.false_or]
    go_enter Tryz.func89, Tryz.ntmps89
    go_wp2
    go_ret
    exact ⟨rfl, Below.refl _ _⟩
theorem eg_digit : ∀ args w, (callFunc 87 args).run Tryz.prog w = .ok (.enter 87 args) w := enters_of Tryz.func87 (by kernel_rfl) rfl
theorem eg_word : ∀ args w, (callFunc 89 args).run Tryz.prog w = .ok (.enter 89 args) w := enters_of Tryz.func89 (by kernel_rfl) rfl
def runN (p : Int → Bool) (s : ByteArray) : Nat → Nat → Nat
  | 0, i => i
  | d + 1, i => if i < s.size then (if p (kindOf (bt s (i : Int))) = true then runN p s d (i + 1) else i) else i
theorem runN_le (p : Int → Bool) (s : ByteArray) : ∀ d i, i ≤ s.size → runN p s d i ≤ s.size ∧ i ≤ runN p s d i
  | 0, i, h => ⟨h, Nat.le_refl _⟩
  | d + 1, i, h => by
    unfold runN
    split
    · split
      · have := runN_le p s d (i + 1) (by omega)
        exact ⟨this.1, by omega⟩
      · exact ⟨h, Nat.le_refl _⟩
    · exact ⟨h, Nat.le_refl _⟩
set_option maxHeartbeats 2000000 in
set_option maxRecDepth 100000 in
theorem run_any (g : Nat) (p : Int → Bool) (eg : ∀ args w, (callFunc g args).run Tryz.prog w = .ok (.enter g args) w) (hp : PredK g p) (s : ByteArray) (hs : s.size ≤ 140737488351232) (w : World) :
    Calls Tryz.prog 86 #[.string s, .func (.func g) #[] #[]] w fun e w' => e = .returned (.int .i64 ((runN p s s.size 0 : Nat) : Int)) ∧ Below w.heap.size w w' := by
  have HP := Lib.hid hp
  clear hp
  have HB0 := Lib.hid (Below.refl w.heap.size w)
  generalize hn : runN p s s.size 0 = n
  have HN := Lib.hid hn
  clear hn
  go_enter Tryz.func86, Tryz.ntmps86
  go_wp2
  go_loopg [5] s.size (fun gg s5 wr => ∃ i d : Nat, s5 = .int .i64 i ∧ d ≤ gg ∧ i + d = s.size ∧ Hid (runN p s d i = n) ∧ Hid (Below w.heap.size w wr))
  case atStart => exact ⟨0, s.size, rfl, by omega, by omega, HN, HB0⟩
  case round =>
    obtain ⟨i, d, rfl, hd, hid, HT, HB⟩ := hrel
    by_cases hlt : i < s.size
    · have hltz : (i : Int) < (s.size : Int) := by omega
      have hi0 : (0 : Int) ≤ (i : Int) := by omega
      have hb : ∀ h : i < s.size, ((s[i]'h).toNat : Int) = bt s (i : Int) := fun h => bt_at s (i : Int) h
      obtain ⟨d, rfl⟩ : ∃ e, d = e + 1 := ⟨d - 1, by omega⟩
      have HK := Lib.hid (kind_bt s i)
      cases hq : p (kindOf (bt s (i : Int))) with
      | true =>
        have hT := HT.out
        rw [runN, if_pos hlt, if_pos hq] at hT
        have HT2 := Lib.hid hT
        have hcp : ∀ W : World, Calls Tryz.prog g #[.int .i64 (kindOf (bt s (i : Int)))] W fun e w' => e = .returned (.bool true) ∧ Below W.heap.size W w' := fun W => by have := HP.out W (kindOf (bt s (i : Int))); rw [hq] at this; exact this
        have HC := Lib.hid hcp
        clear hT hcp hq
        go_wp2_with (first | (go_at_call 71; refine (lex_kind.calls 20 _ _ _ HK.out).mono ?_; rintro e w2 ⟨rfl, hb2⟩) | (go_at_fn g; refine (HC.out _).mono ?_; rintro e w3 ⟨rfl, hb3⟩))
        go_roundg d
        case measure => omega
        case rel => exact ⟨i + 1, d, by go_num, by omega, by omega, HT2, Lib.hid ((below_step HB.out hb2).trans (hb3.mono (below_step HB.out hb2).size))⟩
      | false =>
        have hT := HT.out
        rw [runN, if_pos hlt, if_neg (by rw [hq]; decide)] at hT
        subst hT
        have hcp : ∀ W : World, Calls Tryz.prog g #[.int .i64 (kindOf (bt s (i : Int)))] W fun e w' => e = .returned (.bool false) ∧ Below W.heap.size W w' := fun W => by have := HP.out W (kindOf (bt s (i : Int))); rw [hq] at this; exact this
        have HC := Lib.hid hcp
        clear hcp hq HN
        go_wp2_with (first | (go_at_call 71; refine (lex_kind.calls 20 _ _ _ HK.out).mono ?_; rintro e w2 ⟨rfl, hb2⟩) | (go_at_fn g; refine (HC.out _).mono ?_; rintro e w3 ⟨rfl, hb3⟩))
        go_ret
        exact ⟨rfl, below_step (below_step HB.out hb2) hb3⟩
    · have hltz : ¬ (i : Int) < (s.size : Int) := by omega
      have hT := HT.out
      have hd0 : d = 0 := by omega
      subst hd0
      have hT' : i = n := hT
      subst hT'
      clear HN hT
      go_wp2
      go_ret
      exact ⟨rfl, HB.out⟩
def oneNo (k : Int) : Prop := ¬ k = 2 ∧ ¬ k = 4 ∧ ¬ k = 3 ∧ ¬ k = 5
set_option maxHeartbeats 2000000 in
set_option maxRecDepth 100000 in
theorem one_no (s : ByteArray) (h0 : 0 < s.size) (hs : s.size ≤ 140737488351232) (w : World) (hG : G2 w) (c : Int) (hk : kindOf (bt s 0) = c) (hc : oneNo c) :
    Calls Tryz.prog 72 #[.string s] w fun e w' => e = .returned (.tuple #[.agg #[.int .i64 0, .int .i64 0, .string ⟨#[]⟩, .int .i64 0], .int .i64 0]) ∧ Below w.heap.size w w' := by
  have hu50 := Tryz.underlying137
  have hu9 := Tryz.underlying9
  have hz0 : (0 : Int) < (s.size : Int) := by omega
  have hb : ∀ h : 0 < s.size, ((s[0]'h).toNat : Int) = bt s 0 := fun h => bt_at s 0 h
  have HK := Lib.hid (kind_bt s 0)
  rw [show (((0 : Nat) : Int)) = 0 from rfl, hk] at HK
  have HG := Lib.hid hG
  clear hG hk
  have e2 : (c == 2) = false := beq_eq_false_iff_ne.2 hc.1
  have e4 : (c == 4) = false := beq_eq_false_iff_ne.2 hc.2.1
  have e3 : (c == 3) = false := beq_eq_false_iff_ne.2 hc.2.2.1
  have e5 : (c == 5) = false := beq_eq_false_iff_ne.2 hc.2.2.2
  go_enter Tryz.func72, Tryz.ntmps72
  go_wp2_with (first | (go_at_call 71; (with_reducible refine (lex_kind.calls 20 _ _ _ HK.out).mono ?_); rintro e w1 ⟨rfl, hb1⟩; have K1 := Lib.hid (blk_below (blk_new w (.cells #[.int .i64 0, .int .i64 0, .string ⟨#[]⟩, .int .i64 0] 137 (0, 0))) hb1); have HB1 := Lib.hid (below_step (below_alloc (Below.refl w.heap.size w) _) hb1); clear hb1; have c0 : w1.cell? ⟨w.heap.size, 0, none⟩ = some (.int .i64 0) := (blk_cell K1.out 0).trans rfl; have c1 : w1.cell? ⟨w.heap.size, 1, none⟩ = some (.int .i64 0) := (blk_cell K1.out 1).trans rfl; have c2 : w1.cell? ⟨w.heap.size, 2, none⟩ = some (.string ⟨#[]⟩) := (blk_cell K1.out 2).trans rfl; have c3 : w1.cell? ⟨w.heap.size, 3, none⟩ = some (.int .i64 0) := (blk_cell K1.out 3).trans rfl; have z0 := blk_frozen K1.out 0; have z1 := blk_frozen K1.out 1; have z2 := blk_frozen K1.out 2; have z3 := blk_frozen K1.out 3))
  refine bodyPost_ret (results_ct rfl _ _ w.heap.size 137 _ (0, 0) _ rfl (blk_put (blk_put (blk_put (blk_put K1.out 0 _ rfl) 1 _ rfl) 2 _ rfl) 3 _ rfl) Tryz.underlying137 rfl (by kernel_rfl)) rfl ?_
  exact ⟨rfl, below_set (below_set (below_set (below_set HB1.out (Nat.le_refl _)) (Nat.le_refl _)) (Nat.le_refl _)) (Nat.le_refl _)⟩
set_option maxHeartbeats 2000000 in
set_option maxRecDepth 100000 in
theorem one_text (s : ByteArray) (h0 : 0 < s.size) (hs : s.size ≤ 140737488351232) (w : World) (hG : G2 w) (t : ByteArray) (m : Int) (hk : kindOf (bt s 0) = 4) (ht : lex_text.f s = some (t, m)) :
    Calls Tryz.prog 72 #[.string s] w fun e w' => e = .returned (.tuple #[.agg #[.int .i64 2, .int .i64 0, .string t, .int .i64 0], .int .i64 m]) ∧ Below w.heap.size w w' := by
  have hu50 := Tryz.underlying137
  have hu9 := Tryz.underlying9
  have hz0 : (0 : Int) < (s.size : Int) := by omega
  have hb : ∀ h : 0 < s.size, ((s[0]'h).toNat : Int) = bt s 0 := fun h => bt_at s 0 h
  have HK := Lib.hid (kind_bt s 0)
  rw [show (((0 : Nat) : Int)) = 0 from rfl, hk] at HK
  have HG := Lib.hid hG
  clear hG hk
  have HT := Lib.hid ht
  clear ht
  go_enter Tryz.func72, Tryz.ntmps72
  go_wp2_with (first | (go_at_call 71; (with_reducible refine (lex_kind.calls 20 _ _ _ HK.out).mono ?_); rintro e w1 ⟨rfl, hb1⟩; have K1 := Lib.hid (blk_below (blk_new w (.cells #[.int .i64 0, .int .i64 0, .string ⟨#[]⟩, .int .i64 0] 137 (0, 0))) hb1); have HB1 := Lib.hid (below_step (below_alloc (Below.refl w.heap.size w) _) hb1); clear hb1) | (go_at_call 88; (with_reducible refine (lex_text.calls _ _ _ _ HT.out).mono ?_); rintro e w2 ⟨rfl, hb2⟩; have K2 := Lib.hid (blk_below K1.out hb2); have HB2 := Lib.hid (below_step HB1.out hb2); clear hb2; have c0 : w2.cell? ⟨w.heap.size, 0, none⟩ = some (.int .i64 0) := (blk_cell K2.out 0).trans rfl; have c1 : w2.cell? ⟨w.heap.size, 1, none⟩ = some (.int .i64 0) := (blk_cell K2.out 1).trans rfl; have c2 : w2.cell? ⟨w.heap.size, 2, none⟩ = some (.string ⟨#[]⟩) := (blk_cell K2.out 2).trans rfl; have c3 : w2.cell? ⟨w.heap.size, 3, none⟩ = some (.int .i64 0) := (blk_cell K2.out 3).trans rfl; have z0 := blk_frozen K2.out 0; have z1 := blk_frozen K2.out 1; have z2 := blk_frozen K2.out 2; have z3 := blk_frozen K2.out 3))
  refine bodyPost_ret (results_ct rfl _ _ w.heap.size 137 _ (0, 0) _ rfl (blk_put (blk_put (blk_put (blk_put K2.out 0 _ rfl) 1 _ rfl) 2 _ rfl) 3 _ rfl) Tryz.underlying137 rfl (by kernel_rfl)) rfl ?_
  exact ⟨rfl, below_set (below_set (below_set (below_set HB2.out (Nat.le_refl _)) (Nat.le_refl _)) (Nat.le_refl _)) (Nat.le_refl _)⟩
set_option maxHeartbeats 2000000 in
set_option maxRecDepth 100000 in
theorem one_name (s : ByteArray) (h0 : 0 < s.size) (hs : s.size ≤ 140737488351232) (w : World) (hG : G2 w) (n : Nat) (t : ByteArray) (hk : kindOf (bt s 0) = 3) (hr : runN (fun x => x == 3 || x == 2) s s.size 0 = n) (hn : n ≤ s.size) (ht : lex_Upper.f (s.extract 0 n) = some t) :
    Calls Tryz.prog 72 #[.string s] w fun e w' => e = .returned (.tuple #[.agg #[.int .i64 3, .int .i64 0, .string t, .int .i64 0], .int .i64 (n : Int)]) ∧ Below w.heap.size w w' := by
  have hu50 := Tryz.underlying137
  have hu9 := Tryz.underlying9
  have hz0 : (0 : Int) < (s.size : Int) := by omega
  have hb : ∀ h : 0 < s.size, ((s[0]'h).toNat : Int) = bt s 0 := fun h => bt_at s 0 h
  have HK := Lib.hid (kind_bt s 0)
  rw [show (((0 : Nat) : Int)) = 0 from rfl, hk] at HK
  have HG := Lib.hid hG
  clear hG hk
  have HT := Lib.hid ht
  have hR := fun W => run_any 89 (fun x => x == 3 || x == 2) eg_word pred_word s hs W
  rw [hr] at hR
  have HR := Lib.hid hR
  have hn0 : (0 : Int) ≤ (n : Int) := by omega
  have hn1 : (n : Int) ≤ (s.size : Int) := by omega
  clear ht hR hr
  go_enter Tryz.func72, Tryz.ntmps72
  go_wp2_with (first | (go_at_call 71; (with_reducible refine (lex_kind.calls 20 _ _ _ HK.out).mono ?_); rintro e w1 ⟨rfl, hb1⟩; have K1 := Lib.hid (blk_below (blk_new w (.cells #[.int .i64 0, .int .i64 0, .string ⟨#[]⟩, .int .i64 0] 137 (0, 0))) hb1); have HB1 := Lib.hid (below_step (below_alloc (Below.refl w.heap.size w) _) hb1); clear hb1) | (go_at_call 86; (with_reducible refine (HR.out _).mono ?_); rintro e w2 ⟨rfl, hb2⟩; have K2 := Lib.hid (blk_below K1.out hb2); have HB2 := Lib.hid (below_step HB1.out hb2); clear hb2) | (go_at_call 90; (with_reducible refine (lex_Upper.calls _ _ _ HT.out).mono ?_); rintro e w3 ⟨rfl, hb3⟩; have K3 := Lib.hid (blk_below K2.out hb3); have HB3 := Lib.hid (below_step HB2.out hb3); clear hb3; have c0 : w3.cell? ⟨w.heap.size, 0, none⟩ = some (.int .i64 0) := (blk_cell K3.out 0).trans rfl; have c1 : w3.cell? ⟨w.heap.size, 1, none⟩ = some (.int .i64 0) := (blk_cell K3.out 1).trans rfl; have c2 : w3.cell? ⟨w.heap.size, 2, none⟩ = some (.string ⟨#[]⟩) := (blk_cell K3.out 2).trans rfl; have c3 : w3.cell? ⟨w.heap.size, 3, none⟩ = some (.int .i64 0) := (blk_cell K3.out 3).trans rfl; have z0 := blk_frozen K3.out 0; have z1 := blk_frozen K3.out 1; have z2 := blk_frozen K3.out 2; have z3 := blk_frozen K3.out 3))
  refine bodyPost_ret (results_ct rfl _ _ w.heap.size 137 _ (0, 0) _ rfl (blk_put (blk_put (blk_put (blk_put K3.out 0 _ rfl) 1 _ rfl) 2 _ rfl) 3 _ rfl) Tryz.underlying137 rfl (by kernel_rfl)) rfl ?_
  exact ⟨rfl, below_set (below_set (below_set (below_set HB3.out (Nat.le_refl _)) (Nat.le_refl _)) (Nat.le_refl _)) (Nat.le_refl _)⟩
set_option maxHeartbeats 2000000 in
set_option maxRecDepth 100000 in
theorem one_sign (s : ByteArray) (h0 : 0 < s.size) (hs : s.size ≤ 140737488351232) (w : World) (hG : G2 w) (n : Nat) (hk : kindOf (bt s 0) = 5) (hn : n ≤ s.size) (ht : lex_signs.f s = some (n : Int)) :
    Calls Tryz.prog 72 #[.string s] w fun e w' => e = .returned (.tuple #[.agg #[.int .i64 4, .int .i64 0, .string (s.extract 0 n), .int .i64 0], .int .i64 (n : Int)]) ∧ Below w.heap.size w w' := by
  have hu50 := Tryz.underlying137
  have hu9 := Tryz.underlying9
  have hz0 : (0 : Int) < (s.size : Int) := by omega
  have hb : ∀ h : 0 < s.size, ((s[0]'h).toNat : Int) = bt s 0 := fun h => bt_at s 0 h
  have HK := Lib.hid (kind_bt s 0)
  rw [show (((0 : Nat) : Int)) = 0 from rfl, hk] at HK
  have HG := Lib.hid hG
  clear hG hk
  have HT := Lib.hid ht
  have hn0 : (0 : Int) ≤ (n : Int) := by omega
  have hn1 : (n : Int) ≤ (s.size : Int) := by omega
  clear ht
  go_enter Tryz.func72, Tryz.ntmps72
  go_wp2_with (first | (go_at_call 71; (with_reducible refine (lex_kind.calls 20 _ _ _ HK.out).mono ?_); rintro e w1 ⟨rfl, hb1⟩; have K1 := Lib.hid (blk_below (blk_new w (.cells #[.int .i64 0, .int .i64 0, .string ⟨#[]⟩, .int .i64 0] 137 (0, 0))) hb1); have HB1 := Lib.hid (below_step (below_alloc (Below.refl w.heap.size w) _) hb1); clear hb1) | (go_at_call 91; (with_reducible refine (lex_signs.calls _ _ _ HT.out).mono ?_); rintro e w2 ⟨rfl, hd2⟩; have hb2 := hd2.below; clear hd2; have K2 := Lib.hid (blk_below K1.out hb2); have HB2 := Lib.hid (below_step HB1.out hb2); clear hb2; have c0 : w2.cell? ⟨w.heap.size, 0, none⟩ = some (.int .i64 0) := (blk_cell K2.out 0).trans rfl; have c1 : w2.cell? ⟨w.heap.size, 1, none⟩ = some (.int .i64 0) := (blk_cell K2.out 1).trans rfl; have c2 : w2.cell? ⟨w.heap.size, 2, none⟩ = some (.string ⟨#[]⟩) := (blk_cell K2.out 2).trans rfl; have c3 : w2.cell? ⟨w.heap.size, 3, none⟩ = some (.int .i64 0) := (blk_cell K2.out 3).trans rfl; have z0 := blk_frozen K2.out 0; have z1 := blk_frozen K2.out 1; have z2 := blk_frozen K2.out 2; have z3 := blk_frozen K2.out 3))
  refine bodyPost_ret (results_ct rfl _ _ w.heap.size 137 _ (0, 0) _ rfl (blk_put (blk_put (blk_put (blk_put K2.out 0 _ rfl) 1 _ rfl) 2 _ rfl) 3 _ rfl) Tryz.underlying137 rfl (by kernel_rfl)) rfl ?_
  exact ⟨rfl, below_set (below_set (below_set (below_set HB2.out (Nat.le_refl _)) (Nat.le_refl _)) (Nat.le_refl _)) (Nat.le_refl _)⟩
def pI (s : ByteArray) : Int × Bool := match Lib.parseIntB 64 s.data.toList with
  | .ok v => (v, true)
  | _ => (0, false)
theorem parse_ok (s : ByteArray) (v : Int) (hs : s.size ≤ 140737488351232) (h : pI s = (v, true)) (w : World) :
    Calls Tryz.prog 59 #[.string s, .int .i64 10, .int .i64 64] w fun e w' => e = .returned (.tuple #[.int .i64 v, .nilIface]) ∧ Below w.heap.size w w' := by
  unfold pI at h
  cases hp : Lib.parseIntB 64 s.data.toList <;> rw [hp] at h <;> simp at h
  subst h
  exact (Tryz.strconv_ParseInt_10_at64_ok s (by omega) _ hp w).mono fun e w' ⟨he, hw⟩ => ⟨he, bytesWorld_two (s := s) hw⟩
theorem parse_no (s : ByteArray) (hs : s.size ≤ 140737488351232) (h : (pI s).2 = false) (w : World) (hG : G2 w) :
    Calls Tryz.prog 59 #[.string s, .int .i64 10, .int .i64 64] w fun e w' => ∃ n N, e = .returned (.tuple #[.int .i64 n, .iface 178 (.pointer (some ⟨N, 0, none⟩))]) ∧ Below w.heap.size w w' := by
  obtain ⟨hg1, ⟨t2, p2, h2⟩, t3, p3, h3⟩ := hG
  unfold pI at h
  cases hp : Lib.parseIntB 64 s.data.toList
  · rw [hp] at h; simp at h
  · exact (Any.strconv_ParseInt_10_at64_syntax_var Tryz.laysC174 s (by omega) hp t2 p2 w h2).mono fun e w' ⟨N, h1, _, _, h4⟩ => ⟨_, N, h1, h4⟩
  · exact (Tryz.strconv_ParseInt_10_at64_range_var s (by omega) hp t3 p3 w h3).mono fun e w' ⟨N, h1, _, _, h4⟩ => ⟨_, N, h1, h4⟩
set_option maxHeartbeats 2000000 in
set_option maxRecDepth 100000 in
theorem one_int (s : ByteArray) (h0 : 0 < s.size) (hs : s.size ≤ 140737488351232) (w : World) (hG : G2 w) (n : Nat) (v : Int) (hk : kindOf (bt s 0) = 2) (hr : runN (fun x => x == 2) s s.size 0 = n) (hn : n ≤ s.size) (hp : pI (s.extract 0 n) = (v, true)) :
    Calls Tryz.prog 72 #[.string s] w fun e w' => e = .returned (.tuple #[.agg #[.int .i64 1, .int .i64 v, .string ⟨#[]⟩, .int .i64 0], .int .i64 (n : Int)]) ∧ Below w.heap.size w w' := by
  have hu50 := Tryz.underlying137
  have hu9 := Tryz.underlying9
  have hz0 : (0 : Int) < (s.size : Int) := by omega
  have hb : ∀ h : 0 < s.size, ((s[0]'h).toNat : Int) = bt s 0 := fun h => bt_at s 0 h
  have HK := Lib.hid (kind_bt s 0)
  rw [show (((0 : Nat) : Int)) = 0 from rfl, hk] at HK
  have HG := Lib.hid hG
  clear hG hk
  have hR := fun W => run_any 87 (fun x => x == 2) eg_digit pred_digit s hs W
  rw [hr] at hR
  have HR := Lib.hid hR
  have hn0 : (0 : Int) ≤ (n : Int) := by omega
  have hn1 : (n : Int) ≤ (s.size : Int) := by omega
  have hex : (s.extract 0 n).size ≤ 140737488351232 := by rw [ByteArray.size_extract]; omega
  have HP := Lib.hid hp
  clear hp hR hr
  go_enter Tryz.func72, Tryz.ntmps72
  go_wp2_with (first | (go_at_call 71; (with_reducible refine (lex_kind.calls 20 _ _ _ HK.out).mono ?_); rintro e w1 ⟨rfl, hb1⟩; have K1 := Lib.hid (blk_below (blk_new w (.cells #[.int .i64 0, .int .i64 0, .string ⟨#[]⟩, .int .i64 0] 137 (0, 0))) hb1); have HB1 := Lib.hid (below_step (below_alloc (Below.refl w.heap.size w) _) hb1); clear hb1) | (go_at_call 86; (with_reducible refine (HR.out _).mono ?_); rintro e w2 ⟨rfl, hb2⟩; have K2 := Lib.hid (blk_below K1.out hb2); have HB2 := Lib.hid (below_step HB1.out hb2); clear hb2) | (go_at_call 59; (with_reducible refine (parse_ok _ _ hex HP.out _).mono ?_); rintro e w3 ⟨rfl, hb3⟩; have K3 := Lib.hid (blk_below K2.out hb3); have HB3 := Lib.hid (below_step HB2.out hb3); clear hb3; have c0 : w3.cell? ⟨w.heap.size, 0, none⟩ = some (.int .i64 0) := (blk_cell K3.out 0).trans rfl; have c1 : w3.cell? ⟨w.heap.size, 1, none⟩ = some (.int .i64 0) := (blk_cell K3.out 1).trans rfl; have c2 : w3.cell? ⟨w.heap.size, 2, none⟩ = some (.string ⟨#[]⟩) := (blk_cell K3.out 2).trans rfl; have c3 : w3.cell? ⟨w.heap.size, 3, none⟩ = some (.int .i64 0) := (blk_cell K3.out 3).trans rfl; have z0 := blk_frozen K3.out 0; have z1 := blk_frozen K3.out 1; have z2 := blk_frozen K3.out 2; have z3 := blk_frozen K3.out 3))
  refine bodyPost_ret (results_ct rfl _ _ w.heap.size 137 _ (0, 0) _ rfl (blk_put (blk_put (blk_put (blk_put K3.out 0 _ rfl) 1 _ rfl) 2 _ rfl) 3 _ rfl) Tryz.underlying137 rfl (by kernel_rfl)) rfl ?_
  exact ⟨rfl, below_set (below_set (below_set (below_set HB3.out (Nat.le_refl _)) (Nat.le_refl _)) (Nat.le_refl _)) (Nat.le_refl _)⟩
set_option maxHeartbeats 2000000 in
set_option maxRecDepth 100000 in
theorem one_big (s : ByteArray) (h0 : 0 < s.size) (hs : s.size ≤ 140737488351232) (w : World) (hG : G2 w) (n : Nat) (hk : kindOf (bt s 0) = 2) (hr : runN (fun x => x == 2) s s.size 0 = n) (hn : n ≤ s.size) (hp : (pI (s.extract 0 n)).2 = false) :
    Calls Tryz.prog 72 #[.string s] w fun e w' => e = .returned (.tuple #[.agg #[.int .i64 0, .int .i64 0, .string ⟨#[]⟩, .int .i64 0], .int .i64 0]) ∧ Below w.heap.size w w' := by
  have hu50 := Tryz.underlying137
  have hu9 := Tryz.underlying9
  have hz0 : (0 : Int) < (s.size : Int) := by omega
  have hb : ∀ h : 0 < s.size, ((s[0]'h).toNat : Int) = bt s 0 := fun h => bt_at s 0 h
  have HK := Lib.hid (kind_bt s 0)
  rw [show (((0 : Nat) : Int)) = 0 from rfl, hk] at HK
  have HG := Lib.hid hG
  clear hG hk
  have hR := fun W => run_any 87 (fun x => x == 2) eg_digit pred_digit s hs W
  rw [hr] at hR
  have HR := Lib.hid hR
  have hn0 : (0 : Int) ≤ (n : Int) := by omega
  have hn1 : (n : Int) ≤ (s.size : Int) := by omega
  have hex : (s.extract 0 n).size ≤ 140737488351232 := by rw [ByteArray.size_extract]; omega
  have HP := Lib.hid hp
  clear hp hR hr
  go_enter Tryz.func72, Tryz.ntmps72
  go_wp2_with (first | (go_at_call 71; (with_reducible refine (lex_kind.calls 20 _ _ _ HK.out).mono ?_); rintro e w1 ⟨rfl, hb1⟩; have K1 := Lib.hid (blk_below (blk_new w (.cells #[.int .i64 0, .int .i64 0, .string ⟨#[]⟩, .int .i64 0] 137 (0, 0))) hb1); have HB1 := Lib.hid (below_step (below_alloc (Below.refl w.heap.size w) _) hb1); clear hb1) | (go_at_call 86; (with_reducible refine (HR.out _).mono ?_); rintro e w2 ⟨rfl, hb2⟩; have K2 := Lib.hid (blk_below K1.out hb2); have HB2 := Lib.hid (below_step HB1.out hb2); clear hb2) | (go_at_call 59; (with_reducible refine (parse_no _ hex HP.out _ (gl_2_2 HB2.out HG.out)).mono ?_); rintro e w3 ⟨pn, pN, rfl, hb3⟩; have K3 := Lib.hid (blk_below K2.out hb3); have HB3 := Lib.hid (below_step HB2.out hb3); clear hb3; have c0 : w3.cell? ⟨w.heap.size, 0, none⟩ = some (.int .i64 0) := (blk_cell K3.out 0).trans rfl; have c1 : w3.cell? ⟨w.heap.size, 1, none⟩ = some (.int .i64 0) := (blk_cell K3.out 1).trans rfl; have c2 : w3.cell? ⟨w.heap.size, 2, none⟩ = some (.string ⟨#[]⟩) := (blk_cell K3.out 2).trans rfl; have c3 : w3.cell? ⟨w.heap.size, 3, none⟩ = some (.int .i64 0) := (blk_cell K3.out 3).trans rfl; have z0 := blk_frozen K3.out 0; have z1 := blk_frozen K3.out 1; have z2 := blk_frozen K3.out 2; have z3 := blk_frozen K3.out 3))
  refine bodyPost_ret (results_ct rfl _ _ w.heap.size 137 _ (0, 0) _ rfl (blk_put (blk_put (blk_put (blk_put K3.out 0 _ rfl) 1 _ rfl) 2 _ rfl) 3 _ rfl) Tryz.underlying137 rfl (by kernel_rfl)) rfl ?_
  exact ⟨rfl, below_set (below_set (below_set (below_set HB3.out (Nat.le_refl _)) (Nat.le_refl _)) (Nat.le_refl _)) (Nat.le_refl _)⟩
def signsV (s : ByteArray) : Nat := if s.size > 1 then (if (s.extract 0 2).toList = ([60, 62] : List UInt8) then 2 else if (s.extract 0 2).toList = ([60, 61] : List UInt8) then 2 else if (s.extract 0 2).toList = ([62, 61] : List UInt8) then 2 else 1) else 1
theorem signs_eq (s : ByteArray) : lex_signs.f s = some ((signsV s : Nat) : Int) := by
  unfold lex_signs.f signsV
  by_cases h : s.size > 1
  · rw [if_pos (by omega), if_pos (by omega), if_pos (by omega), if_pos h]
    split
    · rfl
    · split
      · rfl
      · split <;> rfl
  · rw [if_neg (by omega), if_neg h]; rfl
theorem signs_le (s : ByteArray) (h : 0 < s.size) : 1 ≤ signsV s ∧ signsV s ≤ s.size := by
  unfold signsV
  split
  · split
    · omega
    · split
      · omega
      · split <;> omega
  · omega
def digP (x : Int) : Bool := x == 2
def wordP (x : Int) : Bool := x == 3 || x == 2
def digN (s : ByteArray) : Nat := runN digP s s.size 0
def wordN (s : ByteArray) : Nat := runN wordP s s.size 0
def oneV (s : ByteArray) : Int × Int × ByteArray × Int × Int :=
  if kindOf (bt s 0) = 2 then (if (pI (s.extract 0 (digN s))).2 = true then (1, (pI (s.extract 0 (digN s))).1, ⟨#[]⟩, 0, ((digN s : Nat) : Int)) else (0, 0, ⟨#[]⟩, 0, 0)) else
  if kindOf (bt s 0) = 4 then (2, 0, (textF s (s.size + 1) 1 []).1, 0, (textF s (s.size + 1) 1 []).2) else
  if kindOf (bt s 0) = 3 then (3, 0, upS (s.extract 0 (wordN s)), 0, ((wordN s : Nat) : Int)) else
  if kindOf (bt s 0) = 5 then (4, 0, s.extract 0 (signsV s), 0, ((signsV s : Nat) : Int)) else (0, 0, ⟨#[]⟩, 0, 0)
def lex_one.f (s : ByteArray) : Option (Int × Int × ByteArray × Int × Int) := if 0 < s.size ∧ s.size ≤ 140737488351232 then some (oneV s) else none
theorem lex_one.calls (s : ByteArray) (r1 r2 : Int) (r3 : ByteArray) (r4 r5 : Int) (w : World) (hG : G2 w) (h : lex_one.f s = some (r1, r2, r3, r4, r5)) :
    Calls Tryz.prog 72 #[.string s] w fun e w' => e = .returned (.tuple #[.agg #[.int .i64 r1, .int .i64 r2, .string r3, .int .i64 r4], .int .i64 r5]) ∧ Below w.heap.size w w' := by
  unfold lex_one.f at h
  split at h
  case isFalse => cases h
  rename_i hs
  injection h with h
  have hd := (runN_le digP s s.size 0 (by omega)).1
  have hw := (runN_le wordP s s.size 0 (by omega)).1
  have hsg := (signs_le s hs.1).2
  unfold oneV at h
  by_cases h2 : kindOf (bt s 0) = 2
  · rw [if_pos h2] at h
    by_cases hp : (pI (s.extract 0 (digN s))).2 = true
    · rw [if_pos hp] at h
      simp only [Prod.mk.injEq] at h
      obtain ⟨rfl, rfl, rfl, rfl, rfl⟩ := h
      exact one_int s hs.1 hs.2 w hG (digN s) (pI (s.extract 0 (digN s))).1 h2 rfl hd (by rw [← hp])
    · rw [if_neg hp] at h
      simp only [Prod.mk.injEq] at h
      obtain ⟨rfl, rfl, rfl, rfl, rfl⟩ := h
      exact one_big s hs.1 hs.2 w hG (digN s) h2 rfl hd (by simpa using hp)
  rw [if_neg h2] at h
  by_cases h4 : kindOf (bt s 0) = 4
  · rw [if_pos h4] at h
    simp only [Prod.mk.injEq] at h
    obtain ⟨rfl, rfl, rfl, rfl, rfl⟩ := h
    exact one_text s hs.1 hs.2 w hG _ _ h4 (by unfold lex_text.f; rw [if_pos hs.2])
  rw [if_neg h4] at h
  by_cases h3 : kindOf (bt s 0) = 3
  · rw [if_pos h3] at h
    simp only [Prod.mk.injEq] at h
    obtain ⟨rfl, rfl, rfl, rfl, rfl⟩ := h
    exact one_name s hs.1 hs.2 w hG (wordN s) _ h3 rfl hw (by unfold lex_Upper.f; rw [if_pos (by rw [ByteArray.size_extract]; omega)])
  rw [if_neg h3] at h
  by_cases h5 : kindOf (bt s 0) = 5
  · rw [if_pos h5] at h
    simp only [Prod.mk.injEq] at h
    obtain ⟨rfl, rfl, rfl, rfl, rfl⟩ := h
    exact one_sign s hs.1 hs.2 w hG (signsV s) h5 hsg (signs_eq s)
  · rw [if_neg h5] at h
    simp only [Prod.mk.injEq] at h
    obtain ⟨rfl, rfl, rfl, rfl, rfl⟩ := h
    exact one_no s hs.1 hs.2 w hG _ rfl ⟨h2, h4, h3, h5⟩
end Go.Proofs.YtnomfbmebafolaaGreatDoor.P

namespace Go.Proofs.YtnomfbmebafolaaGreatDoor.P
open Go.RowKit Go.Proofs.YtnomfbmebafolaaGreatDoorW.PrintWords Go.Proofs.YtnomfbmebafolaaGreatDoorW.PrintLast Go.Proofs.YtnomfbmebafolaaGreatDoorW.PrintMore
attribute [local go_sem] max2_int min2_int max_two min_two max_three min_three max_four min_four   -- for this text's walks alone
set_option linter.unusedVariables false
set_option linter.unusedSimpArgs false
def lex_Cut.l0 : Nat → ByteArray → List (S137) → Int → Option ((List (S137)) × Int × Int)
  | 0, _, _, _ => none
  | k + 1, x0, x5, x6 => if x6 < (x0.size : Int) then (if 0 ≤ x6 then ((lex_kind.f k (bt x0 x6)).bind fun t102 => (if t102 = 1 then (lex_Cut.l0 k x0 x5 (wrap64 (x6 + 1))) else (if x6 ≤ (x0.size : Int) then ((lex_one.f (x0.extract (x6 : Int).toNat x0.size)).bind fun bt103 => (if bt103.2.2.2.2 = 0 then (some (([] : List (S137)), x6, 12)) else (if x5.length < 3518437208883 then (lex_Cut.l0 k x0 (x5 ++ [(⟨bt103.1, bt103.2.1, bt103.2.2.1, x6⟩ : S137)]) (wrap64 (x6 + bt103.2.2.2.2))) else (none)))) else (none)))) else (none)) else (some (x5, 0, 0))
def lex_Cut.f (k : Nat) (a0 : ByteArray) : Option ((List (S137)) × Int × Int) := if (a0.size : Int) > 300 then (some (([] : List (S137)), 0, 2)) else (lex_Cut.l0 k a0 ([] : List (S137)) 0)
set_option maxHeartbeats 8000000 in
set_option maxRecDepth 100000 in
theorem lex_Cut.calls (k : Nat) (a0 : ByteArray) (r1 : List (S137)) (r2 : Int) (r3 : Int) (w : World) (hG : G2 w) (h : lex_Cut.f k a0 = some (r1, r2, r3)) :
    Calls Tryz.prog 50 #[.string a0] w fun e w' => ∃ v0_ : Value, e = .returned (.tuple #[v0_, .int .i64 r2, .int .i64 r3]) ∧ Kd.R k137 137 w' w.heap.size (fun _ => True) v0_ r1 ∧ Below w.heap.size w w' := by
  have hu137 := Tryz.underlying137
  have HB := Aside0.mk (Below.refl w.heap.size w)
  have H : (if (a0.size : Int) > 300 then (some (([] : List (S137)), 0, 2)) else (lex_Cut.l0 k a0 ([] : List (S137)) 0)) = some (r1, r2, r3) := h
  clear h
  by_cases c2 : (a0.size : Int) > 300
  · rw [if_pos c2] at H
    have c2b0 : decide (300 < (a0.size : Int)) = true := decide_eq_true c2
    have c2b1 : decide (300 < a0.size) = true := decide_eq_true (by omega)
    clear c2
    simp only [Option.some.injEq, Prod.mk.injEq] at H
    obtain ⟨rfl, rfl, rfl⟩ := H
    go_enter Tryz.func50, Tryz.ntmps50
    go_wp2
    go_ret3
    exact ⟨_, by first | rfl | (simp [errW_none, errW_some] <;> rfl) | (simp [*, errW_none, errW_some] <;> rfl), by first | exact Kd.R_nil _ _ _ _ _ | exact Kd.N_nil _ _ _ _ _ | exact Kd.V_nil _ _ _ _ _ | exact Kd.Q_nil _ _ _ _ _ | exact Kd.S_nil _ _ _ _ _, by repeat first | with_reducible exact HB.out | apply zS | exact HB.out⟩
  · rw [if_neg c2] at H
    have c2b0 : decide (300 < (a0.size : Int)) = false := decide_eq_false c2
    have c2b1 : decide (300 < a0.size) = false := decide_eq_false (by omega)
    clear c2
    have H' := Aside0.mk H
    clear H
    go_enter Tryz.func50, Tryz.ntmps50
    go_wp2
    go_loopg [5, 6] k (fun kq v5 v6 w' => ∃ (x5_1 : List (S137)) (x6_1 : Int), v6 = .int .i64 x6_1 ∧ Aside0 (lex_Cut.l0 kq a0 x5_1 x6_1 = some (r1, r2, r3)) ∧ Aside0 (kq ≤ k) ∧ Aside0 (Kd.R k137 137 w' w.heap.size (fun _ => True) v5 x5_1) ∧ Aside0 (Below w.heap.size w w'))
    case atStart => exact ⟨(([] : List (S137))), (0), (by first | rfl | (simp; done) | (simp [*]; done)), H', ⟨Nat.le_refl _⟩, ⟨by first | exact Kd.R_nil _ _ _ _ _ | exact Kd.N_nil _ _ _ _ _ | exact Kd.V_nil _ _ _ _ _ | exact Kd.Q_nil _ _ _ _ _ | exact Kd.S_nil _ _ _ _ _⟩, ⟨by repeat first | with_reducible exact HB.out | apply zS | exact HB.out⟩⟩
    case round =>
      clear H'
      try clear c2
      try clear c2b0
      try clear c2b1
      try clear p2
      obtain ⟨x5_1, x6_1, rfl, HA, HK1, HO_5, HB⟩ := hrel
      cases gk with
      | zero => exact absurd HA.out (by simp [lex_Cut.l0])
      | succ k1 =>
        have H := HA.out
        clear HA
        simp only [lex_Cut.l0] at H
        by_cases c3 : x6_1 < (a0.size : Int)
        · rw [if_pos c3] at H
          have c3b0 : decide (x6_1 < (a0.size : Int)) = true := decide_eq_true c3
          clear c3
          by_cases c4 : 0 ≤ x6_1
          · rw [if_pos c4] at H
            have c4b0 : decide (0 ≤ x6_1) = true := decide_eq_true c4
            clear c4
            replace H := Option.bind_eq_some_iff.mp H
            obtain ⟨t102, A60, H⟩ := H
            replace H : (if t102 = 1 then (lex_Cut.l0 k1 a0 x5_1 (wrap64 (x6_1 + 1))) else (if x6_1 ≤ (a0.size : Int) then ((lex_one.f (a0.extract (x6_1 : Int).toNat a0.size)).bind fun bt103 => (if bt103.2.2.2.2 = 0 then (some (([] : List (S137)), x6_1, 12)) else (if x5_1.length < 3518437208883 then (lex_Cut.l0 k1 a0 (x5_1 ++ [(⟨bt103.1, bt103.2.1, bt103.2.2.1, x6_1⟩ : S137)]) (wrap64 (x6_1 + bt103.2.2.2.2))) else (none)))) else (none))) = some (r1, r2, r3) := H
            have A6 := Aside0.mk A60
            clear A60
            by_cases c7 : t102 = 1
            · rw [if_pos c7] at H
              have c7b0 : (t102 == 1) = true := beq_iff_eq.mpr c7
              have c7b1 : (t102 != 1) = false := bne_eq_false_iff_eq.mpr c7
              clear c7
              have H' := Aside0.mk H
              clear H
              have p5 : 0 ≤ (x6_1 : Int) := of_decide_eq_true (by first | (with_reducible assumption) | assumption)
              have q5 : x6_1 < (a0.size : Int) := of_decide_eq_true (by first | (with_reducible assumption) | assumption)
              have hx5 := bt_at a0 x6_1
              replace p5 := eq_true p5
              replace q5 := eq_true q5
              go_wp2_with (first | ((with_reducible refine gate_callee (f := 71) rfl ?_); refine goesL_ (some 19) rfl rfl Tryz.func71 (by kernel_rfl) rfl #[.int .u8 (bt a0 x6_1)] rfl (by (try simp only [List.map_toArray, List.map_cons, List.map_nil]); first | done | rfl | (simp only [List.length_drop, List.length_take]; rfl)) ?_; (with_reducible refine (lex_kind.calls k1 (bt a0 x6_1) t102 _ A6.out).mono ?_); rintro e w8 ⟨rfl, hb⟩; refine ⟨_, rfl, ?_⟩; have n0_ := Aside0.mk (Kd.R_below (by (with_reducible repeat (first | apply Kd.R_alloc | apply Kd.R_drewN | apply Kd.R_drew)); exact HO_5.out) hb); have n1_ := Aside0.mk (below_step (by repeat first | with_reducible exact HB.out | apply zS | exact HB.out) hb); clear HO_5; clear HB; have HO_5 := n0_; have HB := n1_; clear n0_ n1_; (try clear hb); (try clear hb2); (try clear hk); (try clear hi)))
              go_roundg k1
              case measure => have := HK1.out; omega
              case rel => exact ⟨(x5_1), (wrap64 (x6_1 + 1)), (by first | rfl | (simp; done) | (simp [*]; done)), H', ⟨by have := HK1.out; omega⟩, ⟨by (with_reducible repeat (first | apply Kd.R_alloc | apply Kd.R_drewN | apply Kd.R_drew)); exact HO_5.out⟩, ⟨by repeat first | with_reducible exact HB.out | apply zS | exact HB.out⟩⟩
            · rw [if_neg c7] at H
              have c7b0 : (t102 == 1) = false := beq_eq_false_iff_ne.mpr c7
              have c7b1 : (t102 != 1) = true := bne_iff_ne.mpr c7
              have c9b0 := eq_true (of_decide_eq_true (by first | (with_reducible assumption) | assumption) : 0 ≤ x6_1)
              by_cases c10 : x6_1 ≤ (a0.size : Int)
              · rw [if_pos c10] at H
                have c10b0 := eq_true c10
                have c10b1 : decide (x6_1 ≤ (a0.size : Int)) = true := decide_eq_true c10
                clear c10
                replace H := Option.bind_eq_some_iff.mp H
                obtain ⟨⟨t103, t104, t105, t106, t107⟩, A110, H⟩ := H
                replace H : (if t107 = 0 then (some (([] : List (S137)), x6_1, 12)) else (if x5_1.length < 3518437208883 then (lex_Cut.l0 k1 a0 (x5_1 ++ [(⟨t103, t104, t105, x6_1⟩ : S137)]) (wrap64 (x6_1 + t107))) else (none))) = some (r1, r2, r3) := H
                have A11 := Aside0.mk A110
                clear A110
                by_cases c12 : t107 = 0
                · rw [if_pos c12] at H
                  have c12b0 : (t107 == 0) = true := beq_iff_eq.mpr c12
                  have c12b1 : (t107 != 0) = false := bne_eq_false_iff_eq.mpr c12
                  clear c12
                  simp only [Option.some.injEq, Prod.mk.injEq] at H
                  obtain ⟨rfl, rfl, rfl⟩ := H
                  have p5 : 0 ≤ (x6_1 : Int) := of_decide_eq_true (by first | (with_reducible assumption) | assumption)
                  have q5 : x6_1 < (a0.size : Int) := of_decide_eq_true (by first | (with_reducible assumption) | assumption)
                  have hx5 := bt_at a0 x6_1
                  replace p5 := eq_true p5
                  replace q5 := eq_true q5
                  go_wp2_with (first | ((with_reducible refine gate_callee (f := 71) rfl ?_); refine goesL_ (some 19) rfl rfl Tryz.func71 (by kernel_rfl) rfl #[.int .u8 (bt a0 x6_1)] rfl (by (try simp only [List.map_toArray, List.map_cons, List.map_nil]); first | done | rfl | (simp only [List.length_drop, List.length_take]; rfl)) ?_; (with_reducible refine (lex_kind.calls k1 (bt a0 x6_1) t102 _ A6.out).mono ?_); rintro e w13 ⟨rfl, hb⟩; refine ⟨_, rfl, ?_⟩; have n0_ := Aside0.mk (Kd.R_below (by (with_reducible repeat (first | apply Kd.R_alloc | apply Kd.R_drewN | apply Kd.R_drew)); exact HO_5.out) hb); have n1_ := Aside0.mk (below_step (by repeat first | with_reducible exact HB.out | apply zS | exact HB.out) hb); clear HO_5; clear HB; have HO_5 := n0_; have HB := n1_; clear n0_ n1_; (try clear hb); (try clear hb2); (try clear hk); (try clear hi)) | ((with_reducible refine gate_callee (f := 72) rfl ?_); refine goesL_ (some 27) rfl rfl Tryz.func72 (by kernel_rfl) rfl #[.string (a0.extract (x6_1 : Int).toNat a0.size)] rfl (by (try simp only [List.map_toArray, List.map_cons, List.map_nil]); first | done | rfl | (simp only [List.length_drop, List.length_take]; rfl)) ?_; (with_reducible refine (lex_one.calls (a0.extract (x6_1 : Int).toNat a0.size) t103 t104 t105 t106 t107 _ ?side1 A11.out).mono ?_); (case side1 => exact gl_2_2 (by repeat first | with_reducible exact HB.out | apply zS | exact HB.out) hG); rintro e w14 ⟨rfl, hb⟩; refine ⟨_, rfl, ?_⟩; have n0_ := Aside0.mk (Kd.R_below (by (with_reducible repeat (first | apply Kd.R_alloc | apply Kd.R_drewN | apply Kd.R_drew)); exact HO_5.out) hb); have n1_ := Aside0.mk (below_step (by repeat first | with_reducible exact HB.out | apply zS | exact HB.out) hb); clear HO_5; clear HB; have HO_5 := n0_; have HB := n1_; clear n0_ n1_; (try clear hb); (try clear hb2); (try clear hk); (try clear hi)) | ((with_reducible refine gate_dst (N := 7) rfl ?_); refine box_event ?hg (N := 7) ?hd (cs := #[.int .i64 0, .int .i64 0, .string (⟨#[]⟩ : ByteArray), .int .i64 0]) (t := 137) ?hr ?_; (case hd => rfl); (case hg => rfl); (case hr => first | (go_simp; done) | (go_simp; rfl)); intro gb108 hg w15 hbox hb; have n0_ := Aside0.mk (Kd.R_below (Kd.R_elderB (by (with_reducible repeat (first | apply Kd.R_alloc | apply Kd.R_drewN | apply Kd.R_drew)); exact HO_5.out) gb108 (Nat.le_of_eq hg.symm)) hb); have n1_ := Aside0.mk (below_step (by repeat first | with_reducible exact HB.out | apply zS | exact HB.out) hb); have n2_ := Aside0.mk (hbox); have n3_ := Aside0.mk ((by rw [hg]; exact (below_size (by repeat first | with_reducible exact HB.out | apply zS | exact HB.out)) : w.heap.size ≤ gb108)); have n4_ := n3_; clear HO_5; clear HB; have HO_5 := n0_; have HB := n1_; have BK108 := n2_; have GW108 := n3_; have GE108 := n4_; clear n0_ n1_ n2_ n3_ n4_; clear hb hbox hg; obtain ⟨hcz16_0, hcz16_1, hcz16_2, hcz16_3, hfz16_0, hfz16_1, hfz16_2, hfz16_3⟩ := zC4 BK108.out))
                  go_ret3
                  exact ⟨_, by first | rfl | (simp [errW_none, errW_some] <;> rfl) | (simp [*, errW_none, errW_some] <;> rfl), by first | exact Kd.R_nil _ _ _ _ _ | exact Kd.N_nil _ _ _ _ _ | exact Kd.V_nil _ _ _ _ _ | exact Kd.Q_nil _ _ _ _ _ | exact Kd.S_nil _ _ _ _ _, by repeat first | with_reducible exact HB.out | apply zS | refine below_set ?_ GE108.out | exact HB.out⟩
                · rw [if_neg c12] at H
                  have c12b0 : (t107 == 0) = false := beq_eq_false_iff_ne.mpr c12
                  have c12b1 : (t107 != 0) = true := bne_iff_ne.mpr c12
                  by_cases c17 : x5_1.length < 3518437208883
                  · rw [if_pos c17] at H
                    have LMc17 := Aside0.mk c17
                    clear c17
                    obtain ⟨y109, hy109⟩ : ∃ y_ : List (S137), y_ = (x5_1 ++ [(⟨t103, t104, t105, x6_1⟩ : S137)]) := ⟨_, rfl⟩
                    replace H : (lex_Cut.l0 k1 a0 y109 (wrap64 (x6_1 + t107))) = some (r1, r2, r3) := by first | (rw [hy109]; with_reducible exact H) | (have H2_ := (Option.bind_some _ _).symm.trans H; rw [hy109]; with_reducible exact H2_) | (have H2_ := (Option.bind_some _ _).symm.trans H; with_reducible exact H2_) | with_reducible exact H | (rw [hy109]; exact H) | exact H
                    have Ny109 := Aside0.mk hy109
                    clear hy109
                    have H' := Aside0.mk H
                    clear H
                    have p5 : 0 ≤ (x6_1 : Int) := of_decide_eq_true (by first | (with_reducible assumption) | assumption)
                    have q5 : x6_1 < (a0.size : Int) := of_decide_eq_true (by first | (with_reducible assumption) | assumption)
                    have hx5 := bt_at a0 x6_1
                    replace p5 := eq_true p5
                    replace q5 := eq_true q5
                    have tok36 : True := trivial
                    go_wp2_with (first | ((with_reducible refine gate_dst (N := 36) rfl ?_); have _t := tok36; clear tok36 _t; have hb36 := blk_put (blk_put (blk_put (blk_put (blk_put BK108.out 0 (.int .i64 t103) rfl) 1 (.int .i64 t104) rfl) 2 (.string t105) rfl) 3 (.int .i64 t106) rfl) 3 (.int .i64 x6_1) rfl; obtain ⟨hy0_, hy1_, hy2_, hy3_, hw0_, hw1_, hw2_, hw3_⟩ := zC4 hb36; clear hb36) | ((with_reducible refine gate_callee (f := 71) rfl ?_); refine goesL_ (some 19) rfl rfl Tryz.func71 (by kernel_rfl) rfl #[.int .u8 (bt a0 x6_1)] rfl (by (try simp only [List.map_toArray, List.map_cons, List.map_nil]); first | done | rfl | (simp only [List.length_drop, List.length_take]; rfl)) ?_; (with_reducible refine (lex_kind.calls k1 (bt a0 x6_1) t102 _ A6.out).mono ?_); rintro e w18 ⟨rfl, hb⟩; refine ⟨_, rfl, ?_⟩; have n0_ := Aside0.mk (Kd.R_below (by (with_reducible repeat (first | apply Kd.R_alloc | apply Kd.R_drewN | apply Kd.R_drew)); exact HO_5.out) hb); have n1_ := Aside0.mk (below_step (by repeat first | with_reducible exact HB.out | apply zS | exact HB.out) hb); clear HO_5; clear HB; have HO_5 := n0_; have HB := n1_; clear n0_ n1_; (try clear hb); (try clear hb2); (try clear hk); (try clear hi)) | ((with_reducible refine gate_callee (f := 72) rfl ?_); refine goesL_ (some 27) rfl rfl Tryz.func72 (by kernel_rfl) rfl #[.string (a0.extract (x6_1 : Int).toNat a0.size)] rfl (by (try simp only [List.map_toArray, List.map_cons, List.map_nil]); first | done | rfl | (simp only [List.length_drop, List.length_take]; rfl)) ?_; (with_reducible refine (lex_one.calls (a0.extract (x6_1 : Int).toNat a0.size) t103 t104 t105 t106 t107 _ ?side1 A11.out).mono ?_); (case side1 => exact gl_2_2 (by repeat first | with_reducible exact HB.out | apply zS | exact HB.out) hG); rintro e w19 ⟨rfl, hb⟩; refine ⟨_, rfl, ?_⟩; have n0_ := Aside0.mk (Kd.R_below (by (with_reducible repeat (first | apply Kd.R_alloc | apply Kd.R_drewN | apply Kd.R_drew)); exact HO_5.out) hb); have n1_ := Aside0.mk (below_step (by repeat first | with_reducible exact HB.out | apply zS | exact HB.out) hb); clear HO_5; clear HB; have HO_5 := n0_; have HB := n1_; clear n0_ n1_; (try clear hb); (try clear hb2); (try clear hk); (try clear hi)) | ((with_reducible refine gate_dst (N := 7) rfl ?_); refine box_event ?hg (N := 7) ?hd (cs := #[.int .i64 0, .int .i64 0, .string (⟨#[]⟩ : ByteArray), .int .i64 0]) (t := 137) ?hr ?_; (case hd => rfl); (case hg => rfl); (case hr => first | (go_simp; done) | (go_simp; rfl)); intro gb108 hg w20 hbox hb; have n0_ := Aside0.mk (Kd.R_below (Kd.R_elderB (by (with_reducible repeat (first | apply Kd.R_alloc | apply Kd.R_drewN | apply Kd.R_drew)); exact HO_5.out) gb108 (Nat.le_of_eq hg.symm)) hb); have n1_ := Aside0.mk (below_step (by repeat first | with_reducible exact HB.out | apply zS | exact HB.out) hb); have n2_ := Aside0.mk (hbox); have n3_ := Aside0.mk ((by rw [hg]; exact (below_size (by repeat first | with_reducible exact HB.out | apply zS | exact HB.out)) : w.heap.size ≤ gb108)); have n4_ := n3_; clear HO_5; clear HB; have HO_5 := n0_; have HB := n1_; have BK108 := n2_; have GW108 := n3_; have GE108 := n4_; clear n0_ n1_ n2_ n3_ n4_; clear hb hbox hg; obtain ⟨hcz21_0, hcz21_1, hcz21_2, hcz21_3, hfz21_0, hfz21_1, hfz21_2, hfz21_3⟩ := zC4 BK108.out) | ((with_reducible refine gate_builtin (b := .append) (xs := #[.tmp 35, .tmp 37]) rfl ?_); at_builtin; refine Kd.R_append k137 (w0 := w) w.heap.size rfl (.tmp 35) (.tmp 37) 101 137 (.agg #[(.int .i64 0), (.int .i64 0), (.string ⟨#[]⟩), (.int .i64 0)]) 40 rfl Tryz.underlying101 info137 rfl (by decide) (by omega) u5 x5_1 (⟨t103, t104, t105, x6_1⟩ : S137) [.int .i64 t103, .int .i64 t104, .string t105, .int .i64 x6_1] (fun k_ => k_ ≠ gb108) (fun _ => False) rfl (by first | (go_simp; done) | (go_simp; rfl)) ?aP (fun _ hk => hk.elim) ?aF ?aO ?aB ?aS ?aL ?_; (case aP => exact k137_mkM _ _ _ (⟨t103, t104, t105, x6_1⟩ : S137)); (case aB => exact (by repeat first | with_reducible exact HB.out | apply zS | refine below_set ?_ GE108.out | exact HB.out)); (case aF => exact (fun k_ hk => Kd.freshB (g := gb108) (o := .cells #[.int .i64 t103, .int .i64 t104, .string t105, .int .i64 x6_1] 137 (0, 0)) (by refine zB ?_; refine blk_put (cs := #[.int .i64 t103, .int .i64 t104, .string t105, .int .i64 t106]) ?_ 3 _ rfl; refine zB ?_; refine blk_put (cs := #[.int .i64 t103, .int .i64 t104, .string t105, .int .i64 0]) ?_ 3 _ rfl; refine zB ?_; refine blk_put (cs := #[.int .i64 t103, .int .i64 t104, .string (⟨#[]⟩ : ByteArray), .int .i64 0]) ?_ 2 _ rfl; refine zB ?_; refine blk_put (cs := #[.int .i64 t103, .int .i64 0, .string (⟨#[]⟩ : ByteArray), .int .i64 0]) ?_ 1 _ rfl; refine zB ?_; refine blk_put (cs := #[.int .i64 0, .int .i64 0, .string (⟨#[]⟩ : ByteArray), .int .i64 0]) ?_ 0 _ rfl; refine zB ?_; exact BK108.out) k_ hk)); (case aO => exact (by (with_reducible repeat (first | apply Kd.R_alloc | apply Kd.R_drewN | apply Kd.R_drew)); exact Kd.R_mono (Kd.R_far (p := ⟨gb108, 3, none⟩) (Kd.R_far (p := ⟨gb108, 3, none⟩) (Kd.R_far (p := ⟨gb108, 2, none⟩) (Kd.R_far (p := ⟨gb108, 1, none⟩) (Kd.R_far (p := ⟨gb108, 0, none⟩) (Kd.R_mono HO_5.out (fun k_ hk => (⟨hk, hk.2⟩ : _ ∧ k_ ≠ gb108))) (fun _ hk => hk.2) (.int .i64 t103)) (fun _ hk => hk.2) (.int .i64 t104)) (fun _ hk => hk.2) (.string t105)) (fun _ hk => hk.2) (.int .i64 t106)) (fun _ hk => hk.2) (.int .i64 x6_1)) (fun _ hk => hk.1.2))); (case aS => exact (below_size (by repeat first | with_reducible exact HB.out | apply zS | refine below_set ?_ GE108.out | exact HB.out))); (case aL => have := LMc17.out; omega); intro v110 w22 ho hb hg hat; rw [← Ny109.out] at ho; have n0_ := Aside0.mk (blk_grown (g := gb108) (o := .cells #[.int .i64 t103, .int .i64 t104, .string t105, .int .i64 x6_1] 137 (0, 0)) (by refine zB ?_; refine blk_put (cs := #[.int .i64 t103, .int .i64 t104, .string t105, .int .i64 t106]) ?_ 3 _ rfl; refine zB ?_; refine blk_put (cs := #[.int .i64 t103, .int .i64 t104, .string t105, .int .i64 0]) ?_ 3 _ rfl; refine zB ?_; refine blk_put (cs := #[.int .i64 t103, .int .i64 t104, .string (⟨#[]⟩ : ByteArray), .int .i64 0]) ?_ 2 _ rfl; refine zB ?_; refine blk_put (cs := #[.int .i64 t103, .int .i64 0, .string (⟨#[]⟩ : ByteArray), .int .i64 0]) ?_ 1 _ rfl; refine zB ?_; refine blk_put (cs := #[.int .i64 0, .int .i64 0, .string (⟨#[]⟩ : ByteArray), .int .i64 0]) ?_ 0 _ rfl; refine zB ?_; exact BK108.out) hg (Kd.R_away HO_5.out (fun _ hk => hk.2))); have n1_ := Aside0.mk (hb); have n2_ := Aside0.mk (ho); clear BK108; clear HB; clear HO_5; have BK108 := n0_; have HB := n1_; have HO111 := n2_; clear n0_ n1_ n2_; clear ho hb hg hat))
                    go_roundg k1
                    case measure => have := HK1.out; omega
                    case rel => exact ⟨(y109), (wrap64 (x6_1 + t107)), (by first | rfl | (simp; done) | (simp [*]; done)), H', ⟨by have := HK1.out; omega⟩, ⟨by (with_reducible repeat (first | apply Kd.R_alloc | apply Kd.R_drewN | apply Kd.R_drew)); exact Kd.R_mono HO111.out (fun _ hk => trivial)⟩, ⟨by repeat first | with_reducible exact HB.out | apply zS | refine below_set ?_ GE108.out | exact HB.out⟩⟩
                  · rw [if_neg c17] at H
                    exact absurd H (by simp)
              · rw [if_neg c10] at H
                exact absurd H (by simp)
          · rw [if_neg c4] at H
            exact absurd H (by simp)
        · rw [if_neg c3] at H
          have c3b0 : decide (x6_1 < (a0.size : Int)) = false := decide_eq_false c3
          clear c3
          simp only [Option.some.injEq, Prod.mk.injEq] at H
          obtain ⟨rfl, rfl, rfl⟩ := H
          go_wp2
          go_ret3
          exact ⟨_, by first | rfl | (simp [errW_none, errW_some] <;> rfl) | (simp [*, errW_none, errW_some] <;> rfl), by (with_reducible repeat (first | apply Kd.R_alloc | apply Kd.R_drewN | apply Kd.R_drew)); exact HO_5.out, by repeat first | with_reducible exact HB.out | apply zS | exact HB.out⟩
end Go.Proofs.YtnomfbmebafolaaGreatDoor.P
