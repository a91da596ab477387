/- Contracts of the functions that the law reaches, each with the plain function that it comes to, and plain facts about these. -/
import Derived.LoopTactic
import Derived.Outline
import Derived.WalkKit
import Derived.LaidEql
import Derived.Stop.Asserts
import Derived.RowKitTokens
import Derived.WalkSmall
import Derived.Laws.Externs
import Derived.Laws.IdiomCopy
import Derived.Laws.BitsLemmas
import Derived.Lib.ConvBytes
import Derived.Laws.BytesArg
import Derived.Deep.RegionHeld3
import Derived.Deep.DrawnRows
import Derived.Test.YtnomfbmebafolaaGreatDoorBL2
import Derived.Test.YtnomfbmebafolaaGreatDoorBL3
namespace Go.Proofs.YtnomfbmebafolaaGreatDoor.P
open Go.RowKit Go.Proofs.YtnomfbmebafolaaGreatDoorW.PrintWords Go.Proofs.YtnomfbmebafolaaGreatDoorW.PrintLast Go.Proofs.YtnomfbmebafolaaGreatDoorW.PrintMore
open M (I64)
set_option linter.unusedVariables false
set_option linter.unusedSimpArgs false
abbrev fO (s : ByteArray) (v9 : Value) : Obj := .cells #[.int .i64 6, .int .i64 0, .int .i64 0, .string (⟨#[]⟩ : ByteArray), .int .i64 0, .int .i64 0, .int .i64 0, .int .i64 0, .string s, v9] 31 (0, 0)
inductive CallR (toks : List Tok) (en i : Int) (s : ByteArray) : List TN → Nat → PR × Nat → Prop where
  | full {l : List TN} {n : Nat} (hl : l.length = 10) (hn : n ≤ toks.length) : CallR toks en i s l n (.bad (placeV toks en n) 13, n)
  | bad {l : List TN} {n : Nat} (hl : l.length < 10) (p c : Int) (n1 : Nat) (hf : Does 51 toks en (i + 1) n (.bad p c, n1)) : CallR toks en i s l n (.bad p c, n1)
  | more {l : List TN} {n : Nat} {r : PR × Nat} (hl : l.length < 10) (a : TN) (n1 : Nat) (hf : Does 51 toks en (i + 1) n (.ok a, n1)) (hn1 : n1 ≤ toks.length) (hlt : n < n1) (s1 : ByteArray) (n2 : Nat) (hs : signV toks n1 [⟨#[44]⟩] = (s1, true, n2)) (hn2 : n2 ≤ toks.length) (h : CallR toks en i s (l ++ [a]) n2 r) : CallR toks en i s l n r
  | done {l : List TN} {n : Nat} (hl : l.length < 10) (a : TN) (n1 : Nat) (hf : Does 51 toks en (i + 1) n (.ok a, n1)) (hn1 : n1 ≤ toks.length) (s1 : ByteArray) (n2 : Nat) (hs : signV toks n1 [⟨#[44]⟩] = (s1, false, n2)) (hn2 : n2 ≤ toks.length) (s2 : ByteArray) (n3 : Nat) (hs2 : signV toks n2 [⟨#[41]⟩] = (s2, true, n3)) : CallR toks en i s l n (.ok (callT s (l ++ [a])), n3)
  | open_ {l : List TN} {n : Nat} (hl : l.length < 10) (a : TN) (n1 : Nat) (hf : Does 51 toks en (i + 1) n (.ok a, n1)) (hn1 : n1 ≤ toks.length) (s1 : ByteArray) (n2 : Nat) (hs : signV toks n1 [⟨#[44]⟩] = (s1, false, n2)) (hn2 : n2 ≤ toks.length) (s2 : ByteArray) (n3 : Nat) (hs2 : signV toks n2 [⟨#[41]⟩] = (s2, false, n3)) (hn3 : n3 ≤ toks.length) : CallR toks en i s l n (.bad (placeV toks en n3) 13, n3)
theorem PS.put2 {g : Nat} {toks : List Tok} {en : Int} {n : Nat} {W : World} (h : PS g toks en (n : Int) W) : PS g toks en ((n + 2 : Nat) : Int) (W.setCell ⟨g, 1, none⟩ (.int .i64 ((n : Int) + 2))) := by
  have := PS.put h ((n : Int) + 2)
  rw [show ((n + 2 : Nat) : Int) = (n : Int) + 2 by omega]
  exact this
theorem PS.set9 {g f : Nat} {toks : List Tok} {en at_ : Int} {W : World} (h : PS g toks en at_ W) (hf : g < f) (j : Nat) (u : Value) : PS g toks en at_ (W.setCell ⟨f, j, none⟩ u) := by
  obtain ⟨A, c, h1, h2, gw, h3, h4, h5⟩ := h
  have old : ∀ k, k < f → (W.setCell ⟨f, j, none⟩ u).heap[k]? = W.heap[k]? := fun k hk => Below.heap_setCell W ⟨f, j, none⟩ u k (by show k ≠ f; omega)
  exact ⟨A, c, (old g hf).trans h1, Kd.F_step h2 (fun k hk _ => old k (by omega)), gw, h3, ⟨h4.os, h4.tape, h4.output, by simpa [World.setCell] using h4.size, fun k hk => (old k (by omega)).trans (h4.block k hk)⟩, h5⟩
theorem Bu.set9 {g : Nat} {W0 W : World} (h : Bu g (W0.alloc nd0) W) (j : Nat) (u : Value) : Bu g (W0.alloc nd0) (W.setCell ⟨W0.heap.size + 1, j, none⟩ u) :=
  ⟨h.os, h.tape, h.output, by simpa [World.setCell] using h.size, fun k hk hg => (Below.heap_setCell W ⟨W0.heap.size + 1, j, none⟩ u k (by show k ≠ W0.heap.size + 1; simp at hk; omega)).trans (h.block k hk hg)⟩
theorem PS.grown {g : Nat} {toks : List Tok} {en at_ : Int} {W W1 : World} {row : Option Nat} (h : PS g toks en at_ W) (hg : W.grownBy W1 row) (hr : ∀ k, row = some k → g < k) : PS g toks en at_ W1 := by
  obtain ⟨A, c, h1, h2, gw, h3, h4, h5⟩ := h
  have old : ∀ k, k < W.heap.size → k ≤ g → W1.heap[k]? = W.heap[k]? := fun k hk hkg => hg.block k hk (fun e => by have := hr k e.symm; omega)
  exact ⟨A, c, (old g (blk_lt h1) (Nat.le_refl _)).trans h1, Kd.F_step h2 (fun k hk hlt => old k hlt (by omega)), gw, h3, ⟨hg.os.trans h4.os, hg.tape.trans h4.tape, hg.output.trans h4.output, Nat.le_trans h4.size hg.size, fun k hk => (old k (Nat.lt_of_lt_of_le hk h4.size) (by omega)).trans (h4.block k hk)⟩, h5⟩
theorem Bu.grown {g : Nat} {W0 W W1 : World} {row : Option Nat} (h : Bu g W0 W) (hg : W.grownBy W1 row) (hr : ∀ k, row = some k → W0.heap.size ≤ k) : Bu g W0 W1 :=
  ⟨hg.os.trans h.os, hg.tape.trans h.tape, hg.output.trans h.output, Nat.le_trans h.size hg.size, fun k hk hkg => (hg.block k (Nat.lt_of_lt_of_le hk h.size) (fun e => by have := hr k e.symm; omega)).trans (h.block k hk hkg)⟩
abbrev kN (B : Nat) (w : World) (v : Value) (l : List TN) : Prop := Kd.N k31 31 w B (fun k => B < k) v l
def argsOf (f : Nat) (w : World) : Nat := match w.cell? ⟨f, 9, none⟩ with | some (.slice _ n _) => n | _ => 0
def CallS (toks : List Tok) (en i : Int) (s : ByteArray) (g : Nat) (W : World) (r : PR × Nat) (wr : World) : Prop :=
  ∃ l n v9, CallR toks en i s l n r ∧ PS g toks en (n : Int) wr ∧ Bu g (W.alloc nd0) wr ∧ wr.heap[W.heap.size]? = some nd0 ∧ wr.heap[W.heap.size + 1]? = some (fO s v9) ∧ kN (W.heap.size + 1) wr v9 l
theorem Uq28 {p q : Prop} (h0 : p) (h : p → q := by intro h_; with_reducible repeat (first | exact h_ | exact cw_ps HPW.out | refine PS.alloc ?_ _ | refine PS.set9 ?_ (Nat.lt_succ_of_lt HG.out) _ _ | refine put10_ps ?_ HG.out _ _ _ _ _ _ _ _ _ _)) : q := h h0
theorem Uq29 {p q : Prop} (h0 : p) (h : p → q := by intro h_; with_reducible repeat (first | exact h_ | exact Bu.refl _ _ | exact cw_bu _ _ _ _ | refine Bu.to_alloc ?_ _ | refine Bu.to_set ?_ _ _ | refine Bu.set9 ?_ _ _ | refine put10_bu ?_ (Nat.le_refl _) _ _ _ _ _ _ _ _ _ _)) : q := h h0
theorem Uq30 {p q : Prop} (h0 : p) (h : p → q := by intro h_; with_reducible repeat (first | exact h_ | exact cw_bk _ _ HG.out | exact blk_new _ _ | refine blk_alloc ?_ _ | refine blk_set ?_ (Nat.ne_of_gt HG.out) _ | refine blk_set ?_ (Nat.ne_of_lt (Nat.lt_succ_self _)) _ | refine (put10_old (Nat.ne_of_gt (Nat.lt_succ_self _)) _ _ _ _ _ _ _ _ _ _).trans ?_)) : q := h h0
theorem Uq31 {p q : Prop} (h0 : p) (h : p → q := by intro h_; with_reducible repeat (first | exact (Bu.alloc g W nd0).trans h_ | exact cw_bu _ _ _ _ | refine Bu.to_alloc ?_ _ | refine Bu.to_set ?_ _ _ | refine Bu.set9 ?_ _ _ | refine put10_bu ?_ (Nat.le_refl _) _ _ _ _ _ _ _ _ _ _)) : q := h h0
theorem Uq32 {p q : Prop} (h0 : p) (h : p → q := by intro h_; with_reducible repeat (first | exact h_ | refine blk_alloc ?_ _)) : q := h h0
theorem Uq33 {p q : Prop} (h0 : p) (h : p → q := by intro h_; with_reducible repeat (first | exact h_ | refine Kd.N_alloc ?_ _ | refine Kd.N_far ?_ (fun k hk => Nat.ne_of_gt hk) _)) : q := h h0
theorem Uq34 {p q : Prop} (h0 : p) (h : p → q := by intro h_; with_reducible repeat (first | exact fO_put h_ _ | refine blk_alloc ?_ _)) : q := h h0
set_option maxHeartbeats 8000000 in
set_option maxRecDepth 100000 in
theorem call_long (toks : List Tok) (en i : Int) (s : ByteArray) (n : Nat) (hlen : toks.length ≤ 1000000) (hn : n ≤ toks.length) (h8 : 8 < s.size) (hs8 : s.size ≤ 1000000) : DoesS 137 toks en i s n (.bad (placeV toks en n) 13, n) := by
  intro g W hp
  have hu := Tryz.underlying31
  have HG := Lib.hid hp.lt
  have HP0 := Lib.hid (hp.alloc nd0)
  have HB0 := Lib.hid (Bu.refl g (W.alloc nd0))
  have BK0 := Lib.hid (blk_new W nd0)
  have HPW := Lib.hid hp
  have HLEN := Lib.hid hlen
  have hq : decide ((8 : Int) < (s.size : Int)) = true := decide_eq_true (by omega)
  have hq0 : decide (8 < s.size) = true := decide_eq_true (by omega)
  have hq00 : (8 < s.size) = True := eq_true (by omega)
  have HN := Lib.hid hn
  clear hn
  clear h8 hs8
  clear hp hlen
  go_enter Tryz.func137, Tryz.ntmps137
  go_wp2_with (first | (go_at_call 52; (with_reducible refine (fail_calls g toks en n HN.out _ ?sp).mono ?_); (case sp => exact (Uq28 HP0.out)); rintro e w1 ⟨q, rfl, he, hq, hbl⟩; have HE := Lib.hid he; have HQ := Lib.hid (lo (g := g) (o := nd0) (W := W) (Uq29 HB0.out) hq); have hb := Bu.of_below (g := g) hbl; have hp := PS.below (g := g) (toks := toks) (en := en) (at_ := (n : Int)) (Uq28 HP0.out) hbl; clear he hq hbl; have HP1 := Lib.hid hp; have HB1 := Lib.hid (Bu.trans (g := g) (a := W.alloc nd0) (Uq29 HB0.out) hb); have BK1 := Lib.hid (hb.blk (k := W.heap.size) (o := nd0) (Uq30 BK0.out) (Nat.ne_of_gt HG.out)); clear hp hb; (try clear c0 c1 c2 c3 c4 c5 c6 c7 c8 c9 z0 z1 z2 z3 z4 z5 z6 z7 z8 z9); (try clear hsz); (try clear hsy); (try clear a0 a1 a2 a3 a4 a5 a6 a7 a8 a9 x0 x1 x2 x3 x4 x5 x6 x7 x8 x9); obtain ⟨⟨c0, c1, c2, c3, c4, c5, c6, c7, c8, c9⟩, z0, z1, z2, z3, z4, z5, z6, z7, z8, z9⟩ := z10 BK1.out; have hsy : W.heap.size < w1.heap.size := blk_lt BK1.out))
  refine bodyPost_ret (results_ct rfl _ _ W.heap.size 31 _ (0, 0) _ rfl (Uq4 BK1.out) hu rfl (by kernel_rfl)) rfl ?_
  refine ⟨?_, ?_, q, ?_, ?_, Nat.le_of_lt HQ.out⟩
  · exact (Uq28 HP1.out)
  · exact (Uq31 HB1.out)
  · rfl
  · exact (Uq7 HE.out)
abbrev cw (g : Nat) (n : Nat) (s : ByteArray) (W : World) : World := ((W.setCell ⟨g, 1, none⟩ (.int .i64 ((n : Int) + 2))).alloc nd0).alloc (fO s (.slice none 0 0))
theorem cw_ps {g : Nat} {toks : List Tok} {en : Int} {n : Nat} {s : ByteArray} {W : World} (h : PS g toks en (n : Int) W) : PS g toks en ((n + 2 : Nat) : Int) (cw g n s W) := (h.put2.alloc nd0).alloc _
theorem cw_size (g n : Nat) (s : ByteArray) (W : World) : (cw g n s W).heap.size = W.heap.size + 2 := by simp [World.setCell]
theorem cw_bu (g n : Nat) (s : ByteArray) (W : World) : Bu g (W.alloc nd0) (cw g n s W) := by
  refine ⟨rfl, rfl, rfl, by rw [cw_size]; simp, fun k hk hg => ?_⟩
  have hk' : k < W.heap.size + 1 := by simpa using hk
  have h1 : (cw g n s W).heap[k]? = ((W.setCell ⟨g, 1, none⟩ (.int .i64 ((n : Int) + 2))).alloc nd0).heap[k]? := blk_alloc_old _ _ (by simp [World.setCell]; exact hk')
  rw [h1]
  by_cases he : k = W.heap.size
  · subst he
    rw [blk_new W nd0]
    have := blk_new (W.setCell ⟨g, 1, none⟩ (.int .i64 ((n : Int) + 2))) nd0
    rw [show (W.setCell ⟨g, 1, none⟩ (.int .i64 ((n : Int) + 2))).heap.size = W.heap.size by simp [World.setCell]] at this
    exact this
  · rw [blk_alloc_old _ _ (by simp [World.setCell]; omega), blk_alloc_old _ _ (by omega)]
    exact Below.heap_setCell W ⟨g, 1, none⟩ _ k hg
theorem cw_bk {g : Nat} (n : Nat) (s : ByteArray) {W : World} (hg : g < W.heap.size) : (cw g n s W).heap[W.heap.size]? = some nd0 := by
  rw [(cw_bu g n s W).block W.heap.size (by simp) (by omega)]
  exact blk_new W nd0
theorem cw_bf (g n : Nat) (s : ByteArray) (W : World) : (cw g n s W).heap[W.heap.size + 1]? = some (fO s (.slice none 0 0)) := by
  have h := blk_new ((W.setCell ⟨g, 1, none⟩ (.int .i64 ((n : Int) + 2))).alloc nd0) (fO s (.slice none 0 0))
  rw [show ((W.setCell ⟨g, 1, none⟩ (.int .i64 ((n : Int) + 2))).alloc nd0).heap.size = W.heap.size + 1 by simp [World.setCell]] at h
  exact h
set_option maxHeartbeats 8000000 in
set_option maxRecDepth 100000 in
theorem call_none (toks : List Tok) (en i : Int) (s : ByteArray) (n : Nat) (hlen : toks.length ≤ 1000000) (h8 : ¬ 8 < s.size) (hn : n + 2 ≤ toks.length) (s1 : ByteArray) (n1 : Nat) (hs : signV toks (n + 2) [⟨#[41]⟩] = (s1, true, n1)) : DoesS 137 toks en i s n (.ok (callT s []), n1) := by
  intro g W hp
  have hu := Tryz.underlying31
  have HG := Lib.hid hp.lt
  have HP0 := Lib.hid (hp.alloc nd0)
  have HB0 := Lib.hid (Bu.refl g (W.alloc nd0))
  have BK0 := Lib.hid (blk_new W nd0)
  have HPW := Lib.hid hp
  have HLEN := Lib.hid hlen
  have w2 : IntKind.i64.wrap ((n : Int) + 2) = (n : Int) + 2 := by rw [i64_w, M.wrap64_id (by unfold I64; omega)]
  have hq : decide ((8 : Int) < (s.size : Int)) = false := decide_eq_false (by omega)
  have hq0 : decide (8 < s.size) = false := decide_eq_false (by omega)
  have hq00 : (8 < s.size) = False := eq_false (by omega)
  have HN := Lib.hid hn
  clear hn
  have HS := Lib.hid hs
  clear hs h8
  obtain ⟨At, ct, p0, p1, p2, y1, -, -⟩ := (HP0.out).cells
  obtain ⟨⟨c0, c1, c2, c3, c4, c5, c6, c7, c8, c9⟩, z0, z1, z2, z3, z4, z5, z6, z7, z8, z9⟩ := z10 BK0.out
  have hg1 : (g = W.heap.size) = False := eq_false (Nat.ne_of_lt HG.out)
  have hg2 : (W.heap.size = g) = False := eq_false (Nat.ne_of_gt HG.out)
  have hg3 : g < W.heap.size := HG.out
  clear hp hlen
  go_enter Tryz.func137, Tryz.ntmps137
  go_wp2_with (first | (go_at_call 75; (fail_if_success have := HP1); (with_reducible refine (sign_of g toks en _ HN.out _ _ _ _ _ _ _ HS.out ?s1 HLEN.out _ ?sp ?s2 ?s3 ?s4).mono ?_); (case sp => exact (Uq28 HP0.out)); (case s1 => decide); (case s2 => exact strC_new (by simp [World.setCell]) rfl (by decide)); (case s3 => decide); (case s4 => rfl); rintro e w1 ⟨rfl, hp, hb⟩; have HP1 := Lib.hid hp; have HB1 := Lib.hid (Bu.trans (g := g) (a := W.alloc nd0) (Uq29 HB0.out) hb); have BK1 := Lib.hid (hb.blk (k := W.heap.size) (o := nd0) (Uq30 BK0.out) (Nat.ne_of_gt HG.out)); have BF1 := Lib.hid (hb.blk (k := W.heap.size + 1) (o := fO s (.slice none 0 0)) (by with_reducible repeat (first | exact cw_bf _ _ _ _ | refine blk_alloc ?_ _)) (Nat.ne_of_gt (Nat.lt_succ_of_lt HG.out))); clear hp hb; (try clear c0 c1 c2 c3 c4 c5 c6 c7 c8 c9 z0 z1 z2 z3 z4 z5 z6 z7 z8 z9); (try clear hsz); (try clear hsy); (try clear a0 a1 a2 a3 a4 a5 a6 a7 a8 a9 x0 x1 x2 x3 x4 x5 x6 x7 x8 x9); obtain ⟨⟨c0, c1, c2, c3, c4, c5, c6, c7, c8, c9⟩, z0, z1, z2, z3, z4, z5, z6, z7, z8, z9⟩ := z10 BK1.out; have hsy : W.heap.size < w1.heap.size := blk_lt BK1.out; obtain ⟨⟨a0, a1, a2, a3, a4, a5, a6, a7, a8, a9⟩, x0, x1, x2, x3, x4, x5, x6, x7, x8, x9⟩ := z10 BF1.out; have hsz : W.heap.size + 1 < w1.heap.size := blk_lt BF1.out))
  refine bodyPost_ret (results_ct rfl _ _ W.heap.size 31 _ (0, 0) _ rfl (Uq4 BK1.out) hu rfl (by kernel_rfl)) rfl ?_
  refine ⟨?_, ?_, .slice none 0 0, ?_, Kd.V_nil _ _ _ _ _⟩
  · exact (Uq28 HP1.out)
  · exact (Uq31 HB1.out)
  · rfl
theorem fO_put {f : Nat} {s : ByteArray} {v : Value} {W : World} (h : W.heap[f]? = some (fO s v)) (u : Value) : (W.setCell ⟨f, 9, none⟩ u).heap[f]? = some (fO s u) := blk_put h 9 u rfl
theorem argsOf_of {f : Nat} {s : ByteArray} {W : World} {A : Option Addr} {n c : Nat} (h : W.heap[f]? = some (fO s (.slice A n c))) : argsOf f W = n := by
  unfold argsOf
  rw [blk_cell h 9]; rfl
theorem mu_call {f : Nat} {s : ByteArray} {wr wx : World} {A A' : Option Addr} {l : List TN} {c c' : Nat} (h : wr.heap[f]? = some (fO s (.slice A l.length c))) (hl : l.length < 10) (h' : wx.heap[f]? = some (fO s (.slice A' (l.length + 1) c'))) : 10 - argsOf f wx < 10 - argsOf f wr := by
  rw [argsOf_of h, argsOf_of h']
  omega
theorem okp_of {B : Nat} {wr : World} {v9 : Value} {l : List TN} (hN : kN B wr v9 l) (hB : B < wr.heap.size) : ∀ k, wr.heap.size ≤ k → B < k ∧ some k ≠ v9.ownBlock := fun k hk => ⟨by omega, fun e => by have := Kd.N_lt hN k e.symm; omega⟩
set_option maxHeartbeats 8000000 in
set_option maxRecDepth 100000 in
theorem call_args (toks : List Tok) (en i : Int) (s : ByteArray) (n : Nat) (hlen : toks.length ≤ 1000000) (hi : 0 ≤ i) (h40 : ¬ 40 < i) (h8 : ¬ 8 < s.size) (hn : n + 2 ≤ toks.length) (s1 : ByteArray) (n1 : Nat) (hs : signV toks (n + 2) [⟨#[41]⟩] = (s1, false, n1)) (r : PR × Nat) (hr : CallR toks en i s [] n1 r) : DoesS 137 toks en i s n r := by
  intro g W hp
  have hu := Tryz.underlying31
  have HG := Lib.hid hp.lt
  have HP0 := Lib.hid (hp.alloc nd0)
  have HB0 := Lib.hid (Bu.refl g (W.alloc nd0))
  have BK0 := Lib.hid (blk_new W nd0)
  have HPW := Lib.hid hp
  have HLEN := Lib.hid hlen
  have w2 : IntKind.i64.wrap ((n : Int) + 2) = (n : Int) + 2 := by rw [i64_w, M.wrap64_id (by unfold I64; omega)]
  have hq : decide ((8 : Int) < (s.size : Int)) = false := decide_eq_false (by omega)
  have hq0 : decide (8 < s.size) = false := decide_eq_false (by omega)
  have hq00 : (8 < s.size) = False := eq_false (by omega)
  have HN := Lib.hid hn
  clear hn
  have HS := Lib.hid hs
  have HR := Lib.hid hr
  have HI := Lib.hid (And.intro hi h40)
  clear hs hr h8 hi h40
  obtain ⟨At, ct, p0, p1, p2, y1, -, -⟩ := (HP0.out).cells
  obtain ⟨⟨c0, c1, c2, c3, c4, c5, c6, c7, c8, c9⟩, z0, z1, z2, z3, z4, z5, z6, z7, z8, z9⟩ := z10 BK0.out
  have hg1 : (g = W.heap.size) = False := eq_false (Nat.ne_of_lt HG.out)
  have hg2 : (W.heap.size = g) = False := eq_false (Nat.ne_of_gt HG.out)
  have hg3 : g < W.heap.size := HG.out
  clear hp hlen
  go_enter Tryz.func137, Tryz.ntmps137
  go_wp2_with (first | (go_at_call 75; (fail_if_success have := HP1); (with_reducible refine (sign_of g toks en _ HN.out _ _ _ _ _ _ _ HS.out ?s1 HLEN.out _ ?sp ?s2 ?s3 ?s4).mono ?_); (case sp => exact (Uq28 HP0.out)); (case s1 => decide); (case s2 => exact strC_new (by simp [World.setCell]) rfl (by decide)); (case s3 => decide); (case s4 => rfl); rintro e w1 ⟨rfl, hp, hb⟩; have HP1 := Lib.hid hp; have HB1 := Lib.hid (Bu.trans (g := g) (a := W.alloc nd0) (Uq29 HB0.out) hb); have BK1 := Lib.hid (hb.blk (k := W.heap.size) (o := nd0) (Uq30 BK0.out) (Nat.ne_of_gt HG.out)); have BF1 := Lib.hid (hb.blk (k := W.heap.size + 1) (o := fO s (.slice none 0 0)) (by with_reducible repeat (first | exact cw_bf _ _ _ _ | refine blk_alloc ?_ _)) (Nat.ne_of_gt (Nat.lt_succ_of_lt HG.out))); clear hp hb; (try clear c0 c1 c2 c3 c4 c5 c6 c7 c8 c9 z0 z1 z2 z3 z4 z5 z6 z7 z8 z9); (try clear hsz); (try clear hsy); (try clear a0 a1 a2 a3 a4 a5 a6 a7 a8 a9 x0 x1 x2 x3 x4 x5 x6 x7 x8 x9); obtain ⟨⟨c0, c1, c2, c3, c4, c5, c6, c7, c8, c9⟩, z0, z1, z2, z3, z4, z5, z6, z7, z8, z9⟩ := z10 BK1.out; have hsy : W.heap.size < w1.heap.size := blk_lt BK1.out; obtain ⟨⟨a0, a1, a2, a3, a4, a5, a6, a7, a8, a9⟩, x0, x1, x2, x3, x4, x5, x6, x7, x8, x9⟩ := z10 BF1.out; have hsz : W.heap.size + 1 < w1.heap.size := blk_lt BF1.out))
  clear HP0 HB0 BK0 p0 p1 p2 y1 hg1 hg2 hq hq0 hq00 w2
  go_loopw [12] (fun _ wr => CallS toks en i s g W r wr) (fun _ wr => 10 - argsOf (W.heap.size + 1) wr)
  case atStart => exact ⟨[], n1, .slice none 0 0, HR.out, HP1.out, HB1.out, BK1.out, BF1.out, Kd.N_nil _ _ _ _ _⟩
  case round =>
    clear HR HS HN HP1 HB1 BK1 BF1 hsz hsy c0 c1 c2 c3 c4 c5 c6 c7 c8 c9 z0 z1 z2 z3 z4 z5 z6 z7 z8 z9 a0 a1 a2 a3 a4 a5 a6 a7 a8 a9 x0 x1 x2 x3 x4 x5 x6 x7 x8 x9
    obtain ⟨l, n', v9, hr, hp, hb, hbk, hbf, hN⟩ := hrel
    obtain ⟨A, c, hv9⟩ := Kd.N_slice hN
    have HPr := Lib.hid hp
    have HBr := Lib.hid hb
    have BKr := Lib.hid hbk
    have BFr := Lib.hid hbf
    have BFl : Hid (wr.heap[W.heap.size + 1]? = some (fO s (.slice A l.length c))) := Lib.hid (by rw [← hv9]; exact hbf)
    have HNr := Lib.hid hN
    have hsz : W.heap.size + 1 < wr.heap.size := blk_lt hbf
    have HOK := Lib.hid (okp_of hN hsz)
    have hsy : W.heap.size < wr.heap.size := blk_lt hbk
    clear hp hb hbk hbf hN hv9
    obtain ⟨⟨c0, c1, c2, c3, c4, c5, c6, c7, c8, c9⟩, z0, z1, z2, z3, z4, z5, z6, z7, z8, z9⟩ := z10 BKr.out
    obtain ⟨⟨a0, a1, a2, a3, a4, a5, a6, a7, a8, a9⟩, x0, x1, x2, x3, x4, x5, x6, x7, x8, x9⟩ := z10 BFl.out
    cases hr with
    | full hl hn =>
      have hq1 : decide ((l.length : Int) < 10) = false := decide_eq_false (by omega)
      have hq10 : decide (l.length < 10) = false := decide_eq_false (by omega)
      have hq11 : (l.length < 10) = False := eq_false (by omega)
      have HN := Lib.hid hn
      clear hl hn
      go_wp2_with (first | (go_at_call 52; (with_reducible refine (fail_calls g toks en n' HN.out _ ?sp).mono ?_); (case sp => exact (Uq28 HPr.out)); rintro e w3 ⟨q, rfl, he, hq, hbl⟩; have HE := Lib.hid he; have HQ := Lib.hid (lo (g := g) (o := nd0) (W := W) (Uq29 HBr.out) hq); have hb := Bu.of_below (g := g) hbl; have hp := PS.below (g := g) (toks := toks) (en := en) (at_ := (n' : Int)) (Uq28 HPr.out) hbl; clear he hq hbl; have HP3 := Lib.hid hp; have HB3 := Lib.hid (Bu.trans (g := g) (a := W.alloc nd0) (Uq29 HBr.out) hb); have BK3 := Lib.hid (hb.blk (k := W.heap.size) (o := nd0) (Uq30 BKr.out) (Nat.ne_of_gt HG.out)); clear hp hb; (try clear c0 c1 c2 c3 c4 c5 c6 c7 c8 c9 z0 z1 z2 z3 z4 z5 z6 z7 z8 z9); (try clear hsz); (try clear hsy); (try clear a0 a1 a2 a3 a4 a5 a6 a7 a8 a9 x0 x1 x2 x3 x4 x5 x6 x7 x8 x9); obtain ⟨⟨c0, c1, c2, c3, c4, c5, c6, c7, c8, c9⟩, z0, z1, z2, z3, z4, z5, z6, z7, z8, z9⟩ := z10 BK3.out; have hsy : W.heap.size < w3.heap.size := blk_lt BK3.out))
      refine bodyPost_ret (results_ct rfl _ _ W.heap.size 31 _ (0, 0) _ rfl (Uq4 BK3.out) hu rfl (by kernel_rfl)) rfl ?_
      refine ⟨?_, ?_, q, ?_, ?_, Nat.le_of_lt HQ.out⟩
      · exact (Uq28 HP3.out)
      · exact (Uq31 HB3.out)
      · rfl
      · exact (Uq7 HE.out)
    | bad hl p c_ n1_ hf =>
      have hq1 : decide ((l.length : Int) < 10) = true := decide_eq_true (by omega)
      have hq10 : decide (l.length < 10) = true := decide_eq_true (by omega)
      have hq11 : (l.length < 10) = True := eq_true (by omega)
      have w1' : IntKind.i64.wrap (i + 1) = i + 1 := by rw [i64_w, M.wrap64_id (by have h := HI.out; unfold I64; omega)]
      have HF := Lib.hid hf
      clear hl hf
      go_wp2_with (first | (go_at_call 51; (with_reducible refine (HF.out.bad g _ ?sp).mono ?_); (case sp => exact (Uq28 HPr.out)); rintro e w2 ⟨hp, hb, q, rfl, he, hq⟩; have HE := Lib.hid he; have HQ := Lib.hid (lo (g := g) (o := nd0) (W := W) (Uq29 HBr.out) hq); clear he hq; have HP2 := Lib.hid hp; have HB2 := Lib.hid (Bu.trans (g := g) (a := W.alloc nd0) (Uq29 HBr.out) hb); have BK2 := Lib.hid (hb.blk (k := W.heap.size) (o := nd0) (Uq30 BKr.out) (Nat.ne_of_gt HG.out)); clear hp hb; (try clear c0 c1 c2 c3 c4 c5 c6 c7 c8 c9 z0 z1 z2 z3 z4 z5 z6 z7 z8 z9); (try clear hsz); (try clear hsy); (try clear a0 a1 a2 a3 a4 a5 a6 a7 a8 a9 x0 x1 x2 x3 x4 x5 x6 x7 x8 x9); obtain ⟨⟨c0, c1, c2, c3, c4, c5, c6, c7, c8, c9⟩, z0, z1, z2, z3, z4, z5, z6, z7, z8, z9⟩ := z10 BK2.out; have hsy : W.heap.size < w2.heap.size := blk_lt BK2.out))
      refine bodyPost_ret (results_ct rfl _ _ W.heap.size 31 _ (0, 0) _ rfl (Uq4 BK2.out) hu rfl (by kernel_rfl)) rfl ?_
      refine ⟨?_, ?_, q, ?_, ?_, Nat.le_of_lt HQ.out⟩
      · exact (Uq28 HP2.out)
      · exact (Uq31 HB2.out)
      · rfl
      · exact (Uq7 HE.out)
    | more hl a n1_ hf hn1 hlt s1_ n2_ hs hn2 h =>
      have hq1 : decide ((l.length : Int) < 10) = true := decide_eq_true (by omega)
      have hq10 : decide (l.length < 10) = true := decide_eq_true (by omega)
      have hq11 : (l.length < 10) = True := eq_true (by omega)
      have w1' : IntKind.i64.wrap (i + 1) = i + 1 := by rw [i64_w, M.wrap64_id (by have h := HI.out; unfold I64; omega)]
      have HF := Lib.hid hf
      have HL := Lib.hid hl
      have HN1 := Lib.hid hn1
      have HS := Lib.hid hs
      have HN2_ := Lib.hid hn2
      have HR := Lib.hid h
      clear hl hf hn1 hlt hs hn2 h
      go_wp2_with (first | (go_at_call 51; (with_reducible refine (HF.out.ok g _ ?sp).mono ?_); (case sp => exact (Uq28 HPr.out)); rintro e w2 ⟨hp, hb, v2, rfl, hv⟩; obtain ⟨AA2, kk2, rfl⟩ := Kd.V_slice hv; have HV2 := Lib.hid hv; clear hv; have HN2 := Lib.hid (Kd.N_step HNr.out (fun k hk hlt => hb.block k hlt (Nat.ne_of_gt (Nat.lt_trans (Nat.lt_succ_of_lt HG.out) hk)))); have HP2 := Lib.hid hp; have HB2 := Lib.hid (Bu.trans (g := g) (a := W.alloc nd0) (Uq29 HBr.out) hb); have BK2 := Lib.hid (hb.blk (k := W.heap.size) (o := nd0) (Uq30 BKr.out) (Nat.ne_of_gt HG.out)); have BF2 := Lib.hid (hb.blk (k := W.heap.size + 1) (o := fO s (v9)) (Uq32 BFr.out) (Nat.ne_of_gt (Nat.lt_succ_of_lt HG.out))); clear hp hb; (try clear c0 c1 c2 c3 c4 c5 c6 c7 c8 c9 z0 z1 z2 z3 z4 z5 z6 z7 z8 z9); (try clear hsz); (try clear hsy); (try clear a0 a1 a2 a3 a4 a5 a6 a7 a8 a9 x0 x1 x2 x3 x4 x5 x6 x7 x8 x9); obtain ⟨⟨c0, c1, c2, c3, c4, c5, c6, c7, c8, c9⟩, z0, z1, z2, z3, z4, z5, z6, z7, z8, z9⟩ := z10 BK2.out; have hsy : W.heap.size < w2.heap.size := blk_lt BK2.out; obtain ⟨⟨a0, a1, a2, a3, a4, a5, a6, a7, a8, a9⟩, x0, x1, x2, x3, x4, x5, x6, x7, x8, x9⟩ := z10 BF2.out; have hsz : W.heap.size + 1 < w2.heap.size := blk_lt BF2.out) | ((with_reducible refine gate_builtin (b := .append) (xs := #[.tmp 56, .tmp 58]) rfl ?_); at_builtin; refine Kd.N_append k31 (w0 := w2.alloc (ndO a (.slice AA2 a.f4.length kk2))) (W := w2.alloc (ndO a (.slice AA2 a.f4.length kk2))) (W.heap.size + 1) rfl (.tmp 56) (.tmp 58) 29 31 (.agg #[(.int .i64 0), (.int .i64 0), (.int .i64 0), (.string ⟨#[]⟩), (.int .i64 0), (.int .i64 0), (.int .i64 0), (.int .i64 0), (.string ⟨#[]⟩), (.slice none 0 0)]) 112 rfl Tryz.underlying29 info31 rfl (by decide) (by omega) v9 l a [.int .i64 a.f0, .int .i64 a.f1.f0, .int .i64 a.f1.f1, .string a.f1.f2, .int .i64 a.f2.f0.f0, .int .i64 a.f2.f0.f1, .int .i64 a.f2.f1.f0, .int .i64 a.f2.f1.f1, .string a.f3, .slice AA2 a.f4.length kk2] (fun k => W.heap.size + 1 < k) (fun k => wr.heap.size ≤ k) rfl ?aX ?aP HOK.out ?aF (Kd.N_alloc HN2.out _) (Below.refl _ _) ?aS ?aL ?_; (case aX => (have e_ : (w2.alloc (ndO a (.slice AA2 a.f4.length kk2))).heap.size = w2.heap.size + 1 := (by simp); rw [e_]; rfl)); (case aP => exact k31_mkF _ _ a (Kd.V_reads' HV2.out).2.1 (Kd.V_F (Kd.V_alloc HV2.out _))); (case aF => exact (fun k hk => (by have h1 := hsz; simp at hk; omega))); (case aS => (have h1 := hsz; simp; omega)); (case aL => (have h1 := HL.out; omega)); intro v3 w3 ho hb hg hat; obtain ⟨A3, cc3, hv3⟩ := Kd.N_slice ho; have hv3_ : v3 = .slice A3 (l.length + 1) cc3 := (by rw [hv3, List.length_append]; rfl); clear hv3; subst hv3_; have HN3 := Lib.hid ho; have HP3 := Lib.hid (PS.grown (HP2.out.alloc _) hg (fun k hk => Nat.lt_trans (Nat.lt_succ_of_lt HG.out) (HN2.out.1 k hk))); have HB3 := Lib.hid (Bu.grown (HB2.out.to_alloc _) hg (fun k hk => (by have h1 := HN2.out.1 k hk; simp; omega))); have BK3 := Lib.hid (blk_grown (blk_alloc BK2.out _) hg (Kd.N_away HN2.out (fun k hk => Nat.ne_of_gt (Nat.lt_trans (Nat.lt_succ_self _) hk)))); have BF3 := Lib.hid (blk_grown (blk_alloc BF2.out _) hg (Kd.N_away HN2.out (fun k hk => Nat.ne_of_gt hk))); clear ho hb hg hat; (try clear c0 c1 c2 c3 c4 c5 c6 c7 c8 c9 z0 z1 z2 z3 z4 z5 z6 z7 z8 z9); (try clear hsz); (try clear hsy); (try clear a0 a1 a2 a3 a4 a5 a6 a7 a8 a9 x0 x1 x2 x3 x4 x5 x6 x7 x8 x9); obtain ⟨⟨c0, c1, c2, c3, c4, c5, c6, c7, c8, c9⟩, z0, z1, z2, z3, z4, z5, z6, z7, z8, z9⟩ := z10 BK3.out; obtain ⟨⟨a0, a1, a2, a3, a4, a5, a6, a7, a8, a9⟩, x0, x1, x2, x3, x4, x5, x6, x7, x8, x9⟩ := z10 BF3.out; have hsz : W.heap.size + 1 < w3.heap.size := blk_lt BF3.out; have hsy : W.heap.size < w3.heap.size := blk_lt BK3.out) | (go_at_call 75; (fail_if_success have := HP4); (with_reducible refine (sign_of g toks en _ HN1.out _ _ _ _ _ _ _ HS.out ?s1 HLEN.out _ ?sp ?s2 ?s3 ?s4).mono ?_); (case sp => exact (Uq28 HP3.out)); (case s1 => decide); (case s2 => exact strC_new (by simp [World.setCell]) rfl (by decide)); (case s3 => decide); (case s4 => rfl); rintro e w4 ⟨rfl, hp, hb⟩; have HN4 := Lib.hid (Kd.N_step (show kN (W.heap.size + 1) _ (.slice A3 (l.length + 1) cc3) (l ++ [a]) from (Uq33 HN3.out)) (fun k hk hlt => hb.block k hlt (Nat.ne_of_gt (Nat.lt_trans (Nat.lt_succ_of_lt HG.out) hk)))); have HP4 := Lib.hid hp; have HB4 := Lib.hid (Bu.trans (g := g) (a := W.alloc nd0) (Uq29 HB3.out) hb); have BK4 := Lib.hid (hb.blk (k := W.heap.size) (o := nd0) (Uq30 BK3.out) (Nat.ne_of_gt HG.out)); have BF4 := Lib.hid (hb.blk (k := W.heap.size + 1) (o := fO s (.slice A3 (l.length + 1) cc3)) (Uq34 BF3.out) (Nat.ne_of_gt (Nat.lt_succ_of_lt HG.out))); clear hp hb; (try clear c0 c1 c2 c3 c4 c5 c6 c7 c8 c9 z0 z1 z2 z3 z4 z5 z6 z7 z8 z9); (try clear hsz); (try clear hsy); (try clear a0 a1 a2 a3 a4 a5 a6 a7 a8 a9 x0 x1 x2 x3 x4 x5 x6 x7 x8 x9); obtain ⟨⟨c0, c1, c2, c3, c4, c5, c6, c7, c8, c9⟩, z0, z1, z2, z3, z4, z5, z6, z7, z8, z9⟩ := z10 BK4.out; have hsy : W.heap.size < w4.heap.size := blk_lt BK4.out; obtain ⟨⟨a0, a1, a2, a3, a4, a5, a6, a7, a8, a9⟩, x0, x1, x2, x3, x4, x5, x6, x7, x8, x9⟩ := z10 BF4.out; have hsz : W.heap.size + 1 < w4.heap.size := blk_lt BF4.out))
      go_roundw
      case rel => exact ⟨l ++ [a], n2_, _, HR.out, HP4.out, HB4.out, BK4.out, BF4.out, HN4.out⟩
      case measure => exact mu_call BFl.out HL.out BF4.out
    | done hl a n1_ hf hn1 s1_ n2_ hs hn2 s2_ n3_ hs2 =>
      have hq1 : decide ((l.length : Int) < 10) = true := decide_eq_true (by omega)
      have hq10 : decide (l.length < 10) = true := decide_eq_true (by omega)
      have hq11 : (l.length < 10) = True := eq_true (by omega)
      have w1' : IntKind.i64.wrap (i + 1) = i + 1 := by rw [i64_w, M.wrap64_id (by have h := HI.out; unfold I64; omega)]
      have HF := Lib.hid hf
      have HL := Lib.hid hl
      have HN1 := Lib.hid hn1
      have HS := Lib.hid hs
      have HN2_ := Lib.hid hn2
      have HS2 := Lib.hid hs2
      clear hl hf hn1 hs hn2 hs2
      go_wp2_with (first | (go_at_call 51; (with_reducible refine (HF.out.ok g _ ?sp).mono ?_); (case sp => exact (Uq28 HPr.out)); rintro e w2 ⟨hp, hb, v2, rfl, hv⟩; obtain ⟨AA2, kk2, rfl⟩ := Kd.V_slice hv; have HV2 := Lib.hid hv; clear hv; have HN2 := Lib.hid (Kd.N_step HNr.out (fun k hk hlt => hb.block k hlt (Nat.ne_of_gt (Nat.lt_trans (Nat.lt_succ_of_lt HG.out) hk)))); have HP2 := Lib.hid hp; have HB2 := Lib.hid (Bu.trans (g := g) (a := W.alloc nd0) (Uq29 HBr.out) hb); have BK2 := Lib.hid (hb.blk (k := W.heap.size) (o := nd0) (Uq30 BKr.out) (Nat.ne_of_gt HG.out)); have BF2 := Lib.hid (hb.blk (k := W.heap.size + 1) (o := fO s (v9)) (Uq32 BFr.out) (Nat.ne_of_gt (Nat.lt_succ_of_lt HG.out))); clear hp hb; (try clear c0 c1 c2 c3 c4 c5 c6 c7 c8 c9 z0 z1 z2 z3 z4 z5 z6 z7 z8 z9); (try clear hsz); (try clear hsy); (try clear a0 a1 a2 a3 a4 a5 a6 a7 a8 a9 x0 x1 x2 x3 x4 x5 x6 x7 x8 x9); obtain ⟨⟨c0, c1, c2, c3, c4, c5, c6, c7, c8, c9⟩, z0, z1, z2, z3, z4, z5, z6, z7, z8, z9⟩ := z10 BK2.out; have hsy : W.heap.size < w2.heap.size := blk_lt BK2.out; obtain ⟨⟨a0, a1, a2, a3, a4, a5, a6, a7, a8, a9⟩, x0, x1, x2, x3, x4, x5, x6, x7, x8, x9⟩ := z10 BF2.out; have hsz : W.heap.size + 1 < w2.heap.size := blk_lt BF2.out) | ((with_reducible refine gate_builtin (b := .append) (xs := #[.tmp 56, .tmp 58]) rfl ?_); at_builtin; refine Kd.N_append k31 (w0 := w2.alloc (ndO a (.slice AA2 a.f4.length kk2))) (W := w2.alloc (ndO a (.slice AA2 a.f4.length kk2))) (W.heap.size + 1) rfl (.tmp 56) (.tmp 58) 29 31 (.agg #[(.int .i64 0), (.int .i64 0), (.int .i64 0), (.string ⟨#[]⟩), (.int .i64 0), (.int .i64 0), (.int .i64 0), (.int .i64 0), (.string ⟨#[]⟩), (.slice none 0 0)]) 112 rfl Tryz.underlying29 info31 rfl (by decide) (by omega) v9 l a [.int .i64 a.f0, .int .i64 a.f1.f0, .int .i64 a.f1.f1, .string a.f1.f2, .int .i64 a.f2.f0.f0, .int .i64 a.f2.f0.f1, .int .i64 a.f2.f1.f0, .int .i64 a.f2.f1.f1, .string a.f3, .slice AA2 a.f4.length kk2] (fun k => W.heap.size + 1 < k) (fun k => wr.heap.size ≤ k) rfl ?aX ?aP HOK.out ?aF (Kd.N_alloc HN2.out _) (Below.refl _ _) ?aS ?aL ?_; (case aX => (have e_ : (w2.alloc (ndO a (.slice AA2 a.f4.length kk2))).heap.size = w2.heap.size + 1 := (by simp); rw [e_]; rfl)); (case aP => exact k31_mkF _ _ a (Kd.V_reads' HV2.out).2.1 (Kd.V_F (Kd.V_alloc HV2.out _))); (case aF => exact (fun k hk => (by have h1 := hsz; simp at hk; omega))); (case aS => (have h1 := hsz; simp; omega)); (case aL => (have h1 := HL.out; omega)); intro v3 w3 ho hb hg hat; obtain ⟨A3, cc3, hv3⟩ := Kd.N_slice ho; have hv3_ : v3 = .slice A3 (l.length + 1) cc3 := (by rw [hv3, List.length_append]; rfl); clear hv3; subst hv3_; have HN3 := Lib.hid ho; have HP3 := Lib.hid (PS.grown (HP2.out.alloc _) hg (fun k hk => Nat.lt_trans (Nat.lt_succ_of_lt HG.out) (HN2.out.1 k hk))); have HB3 := Lib.hid (Bu.grown (HB2.out.to_alloc _) hg (fun k hk => (by have h1 := HN2.out.1 k hk; simp; omega))); have BK3 := Lib.hid (blk_grown (blk_alloc BK2.out _) hg (Kd.N_away HN2.out (fun k hk => Nat.ne_of_gt (Nat.lt_trans (Nat.lt_succ_self _) hk)))); have BF3 := Lib.hid (blk_grown (blk_alloc BF2.out _) hg (Kd.N_away HN2.out (fun k hk => Nat.ne_of_gt hk))); clear ho hb hg hat; (try clear c0 c1 c2 c3 c4 c5 c6 c7 c8 c9 z0 z1 z2 z3 z4 z5 z6 z7 z8 z9); (try clear hsz); (try clear hsy); (try clear a0 a1 a2 a3 a4 a5 a6 a7 a8 a9 x0 x1 x2 x3 x4 x5 x6 x7 x8 x9); obtain ⟨⟨c0, c1, c2, c3, c4, c5, c6, c7, c8, c9⟩, z0, z1, z2, z3, z4, z5, z6, z7, z8, z9⟩ := z10 BK3.out; obtain ⟨⟨a0, a1, a2, a3, a4, a5, a6, a7, a8, a9⟩, x0, x1, x2, x3, x4, x5, x6, x7, x8, x9⟩ := z10 BF3.out; have hsz : W.heap.size + 1 < w3.heap.size := blk_lt BF3.out; have hsy : W.heap.size < w3.heap.size := blk_lt BK3.out) | (go_at_call 75; (fail_if_success have := HP4); (with_reducible refine (sign_of g toks en _ HN1.out _ _ _ _ _ _ _ HS.out ?s1 HLEN.out _ ?sp ?s2 ?s3 ?s4).mono ?_); (case sp => exact (Uq28 HP3.out)); (case s1 => decide); (case s2 => exact strC_new (by simp [World.setCell]) rfl (by decide)); (case s3 => decide); (case s4 => rfl); rintro e w4 ⟨rfl, hp, hb⟩; have HN4 := Lib.hid (Kd.N_step (show kN (W.heap.size + 1) _ (.slice A3 (l.length + 1) cc3) (l ++ [a]) from (Uq33 HN3.out)) (fun k hk hlt => hb.block k hlt (Nat.ne_of_gt (Nat.lt_trans (Nat.lt_succ_of_lt HG.out) hk)))); have HP4 := Lib.hid hp; have HB4 := Lib.hid (Bu.trans (g := g) (a := W.alloc nd0) (Uq29 HB3.out) hb); have BK4 := Lib.hid (hb.blk (k := W.heap.size) (o := nd0) (Uq30 BK3.out) (Nat.ne_of_gt HG.out)); have BF4 := Lib.hid (hb.blk (k := W.heap.size + 1) (o := fO s (.slice A3 (l.length + 1) cc3)) (Uq34 BF3.out) (Nat.ne_of_gt (Nat.lt_succ_of_lt HG.out))); clear hp hb; (try clear c0 c1 c2 c3 c4 c5 c6 c7 c8 c9 z0 z1 z2 z3 z4 z5 z6 z7 z8 z9); (try clear hsz); (try clear hsy); (try clear a0 a1 a2 a3 a4 a5 a6 a7 a8 a9 x0 x1 x2 x3 x4 x5 x6 x7 x8 x9); obtain ⟨⟨c0, c1, c2, c3, c4, c5, c6, c7, c8, c9⟩, z0, z1, z2, z3, z4, z5, z6, z7, z8, z9⟩ := z10 BK4.out; have hsy : W.heap.size < w4.heap.size := blk_lt BK4.out; obtain ⟨⟨a0, a1, a2, a3, a4, a5, a6, a7, a8, a9⟩, x0, x1, x2, x3, x4, x5, x6, x7, x8, x9⟩ := z10 BF4.out; have hsz : W.heap.size + 1 < w4.heap.size := blk_lt BF4.out) | (go_at_call 75; (fail_if_success have := HP5); (with_reducible refine (sign_of g toks en _ HN2_.out _ _ _ _ _ _ _ HS2.out ?s1 HLEN.out _ ?sp ?s2 ?s3 ?s4).mono ?_); (case sp => exact (Uq28 HP4.out)); (case s1 => decide); (case s2 => exact strC_new (by simp [World.setCell]) rfl (by decide)); (case s3 => decide); (case s4 => rfl); rintro e w5 ⟨rfl, hp, hb⟩; have HN5 := Lib.hid (Kd.N_step (show kN (W.heap.size + 1) _ (.slice A3 (l.length + 1) cc3) (l ++ [a]) from (Uq33 HN4.out)) (fun k hk hlt => hb.block k hlt (Nat.ne_of_gt (Nat.lt_trans (Nat.lt_succ_of_lt HG.out) hk)))); have HP5 := Lib.hid hp; have HB5 := Lib.hid (Bu.trans (g := g) (a := W.alloc nd0) (Uq29 HB4.out) hb); have BK5 := Lib.hid (hb.blk (k := W.heap.size) (o := nd0) (Uq30 BK4.out) (Nat.ne_of_gt HG.out)); have BF5 := Lib.hid (hb.blk (k := W.heap.size + 1) (o := fO s (.slice A3 (l.length + 1) cc3)) (Uq32 BF4.out) (Nat.ne_of_gt (Nat.lt_succ_of_lt HG.out))); clear hp hb; (try clear c0 c1 c2 c3 c4 c5 c6 c7 c8 c9 z0 z1 z2 z3 z4 z5 z6 z7 z8 z9); (try clear hsz); (try clear hsy); (try clear a0 a1 a2 a3 a4 a5 a6 a7 a8 a9 x0 x1 x2 x3 x4 x5 x6 x7 x8 x9); obtain ⟨⟨c0, c1, c2, c3, c4, c5, c6, c7, c8, c9⟩, z0, z1, z2, z3, z4, z5, z6, z7, z8, z9⟩ := z10 BK5.out; have hsy : W.heap.size < w5.heap.size := blk_lt BK5.out; obtain ⟨⟨a0, a1, a2, a3, a4, a5, a6, a7, a8, a9⟩, x0, x1, x2, x3, x4, x5, x6, x7, x8, x9⟩ := z10 BF5.out; have hsz : W.heap.size + 1 < w5.heap.size := blk_lt BF5.out))
      refine bodyPost_ret (results_ct rfl _ _ W.heap.size 31 _ (0, 0) _ rfl (Uq4 BK5.out) hu rfl (by kernel_rfl)) rfl ?_
      refine ⟨?_, ?_, .slice A3 (l.length + 1) cc3, ?_, Kd.V_mono (put10_vN (ok := fun k => W.heap.size < k) (Kd.V_mono (Kd.N_V (base' := 0) HN5.out) (fun k hk => Nat.lt_trans (Nat.lt_succ_self _) hk)) (fun k hk => Nat.ne_of_gt hk) _ _ _ _ _ _ _ _ _ _) (fun k hk => Nat.le_of_lt hk)⟩
      · exact (Uq28 HP5.out)
      · exact (Uq31 HB5.out)
      · rfl
    | open_ hl a n1_ hf hn1 s1_ n2_ hs hn2 s2_ n3_ hs2 hn3 =>
      have hq1 : decide ((l.length : Int) < 10) = true := decide_eq_true (by omega)
      have hq10 : decide (l.length < 10) = true := decide_eq_true (by omega)
      have hq11 : (l.length < 10) = True := eq_true (by omega)
      have w1' : IntKind.i64.wrap (i + 1) = i + 1 := by rw [i64_w, M.wrap64_id (by have h := HI.out; unfold I64; omega)]
      have HF := Lib.hid hf
      have HL := Lib.hid hl
      have HN1 := Lib.hid hn1
      have HS := Lib.hid hs
      have HN2_ := Lib.hid hn2
      have HS2 := Lib.hid hs2
      have HN3_ := Lib.hid hn3
      clear hl hf hn1 hs hn2 hs2 hn3
      go_wp2_with (first | (go_at_call 51; (with_reducible refine (HF.out.ok g _ ?sp).mono ?_); (case sp => exact (Uq28 HPr.out)); rintro e w2 ⟨hp, hb, v2, rfl, hv⟩; obtain ⟨AA2, kk2, rfl⟩ := Kd.V_slice hv; have HV2 := Lib.hid hv; clear hv; have HN2 := Lib.hid (Kd.N_step HNr.out (fun k hk hlt => hb.block k hlt (Nat.ne_of_gt (Nat.lt_trans (Nat.lt_succ_of_lt HG.out) hk)))); have HP2 := Lib.hid hp; have HB2 := Lib.hid (Bu.trans (g := g) (a := W.alloc nd0) (Uq29 HBr.out) hb); have BK2 := Lib.hid (hb.blk (k := W.heap.size) (o := nd0) (Uq30 BKr.out) (Nat.ne_of_gt HG.out)); have BF2 := Lib.hid (hb.blk (k := W.heap.size + 1) (o := fO s (v9)) (Uq32 BFr.out) (Nat.ne_of_gt (Nat.lt_succ_of_lt HG.out))); clear hp hb; (try clear c0 c1 c2 c3 c4 c5 c6 c7 c8 c9 z0 z1 z2 z3 z4 z5 z6 z7 z8 z9); (try clear hsz); (try clear hsy); (try clear a0 a1 a2 a3 a4 a5 a6 a7 a8 a9 x0 x1 x2 x3 x4 x5 x6 x7 x8 x9); obtain ⟨⟨c0, c1, c2, c3, c4, c5, c6, c7, c8, c9⟩, z0, z1, z2, z3, z4, z5, z6, z7, z8, z9⟩ := z10 BK2.out; have hsy : W.heap.size < w2.heap.size := blk_lt BK2.out; obtain ⟨⟨a0, a1, a2, a3, a4, a5, a6, a7, a8, a9⟩, x0, x1, x2, x3, x4, x5, x6, x7, x8, x9⟩ := z10 BF2.out; have hsz : W.heap.size + 1 < w2.heap.size := blk_lt BF2.out) | ((with_reducible refine gate_builtin (b := .append) (xs := #[.tmp 56, .tmp 58]) rfl ?_); at_builtin; refine Kd.N_append k31 (w0 := w2.alloc (ndO a (.slice AA2 a.f4.length kk2))) (W := w2.alloc (ndO a (.slice AA2 a.f4.length kk2))) (W.heap.size + 1) rfl (.tmp 56) (.tmp 58) 29 31 (.agg #[(.int .i64 0), (.int .i64 0), (.int .i64 0), (.string ⟨#[]⟩), (.int .i64 0), (.int .i64 0), (.int .i64 0), (.int .i64 0), (.string ⟨#[]⟩), (.slice none 0 0)]) 112 rfl Tryz.underlying29 info31 rfl (by decide) (by omega) v9 l a [.int .i64 a.f0, .int .i64 a.f1.f0, .int .i64 a.f1.f1, .string a.f1.f2, .int .i64 a.f2.f0.f0, .int .i64 a.f2.f0.f1, .int .i64 a.f2.f1.f0, .int .i64 a.f2.f1.f1, .string a.f3, .slice AA2 a.f4.length kk2] (fun k => W.heap.size + 1 < k) (fun k => wr.heap.size ≤ k) rfl ?aX ?aP HOK.out ?aF (Kd.N_alloc HN2.out _) (Below.refl _ _) ?aS ?aL ?_; (case aX => (have e_ : (w2.alloc (ndO a (.slice AA2 a.f4.length kk2))).heap.size = w2.heap.size + 1 := (by simp); rw [e_]; rfl)); (case aP => exact k31_mkF _ _ a (Kd.V_reads' HV2.out).2.1 (Kd.V_F (Kd.V_alloc HV2.out _))); (case aF => exact (fun k hk => (by have h1 := hsz; simp at hk; omega))); (case aS => (have h1 := hsz; simp; omega)); (case aL => (have h1 := HL.out; omega)); intro v3 w3 ho hb hg hat; obtain ⟨A3, cc3, hv3⟩ := Kd.N_slice ho; have hv3_ : v3 = .slice A3 (l.length + 1) cc3 := (by rw [hv3, List.length_append]; rfl); clear hv3; subst hv3_; have HN3 := Lib.hid ho; have HP3 := Lib.hid (PS.grown (HP2.out.alloc _) hg (fun k hk => Nat.lt_trans (Nat.lt_succ_of_lt HG.out) (HN2.out.1 k hk))); have HB3 := Lib.hid (Bu.grown (HB2.out.to_alloc _) hg (fun k hk => (by have h1 := HN2.out.1 k hk; simp; omega))); have BK3 := Lib.hid (blk_grown (blk_alloc BK2.out _) hg (Kd.N_away HN2.out (fun k hk => Nat.ne_of_gt (Nat.lt_trans (Nat.lt_succ_self _) hk)))); have BF3 := Lib.hid (blk_grown (blk_alloc BF2.out _) hg (Kd.N_away HN2.out (fun k hk => Nat.ne_of_gt hk))); clear ho hb hg hat; (try clear c0 c1 c2 c3 c4 c5 c6 c7 c8 c9 z0 z1 z2 z3 z4 z5 z6 z7 z8 z9); (try clear hsz); (try clear hsy); (try clear a0 a1 a2 a3 a4 a5 a6 a7 a8 a9 x0 x1 x2 x3 x4 x5 x6 x7 x8 x9); obtain ⟨⟨c0, c1, c2, c3, c4, c5, c6, c7, c8, c9⟩, z0, z1, z2, z3, z4, z5, z6, z7, z8, z9⟩ := z10 BK3.out; obtain ⟨⟨a0, a1, a2, a3, a4, a5, a6, a7, a8, a9⟩, x0, x1, x2, x3, x4, x5, x6, x7, x8, x9⟩ := z10 BF3.out; have hsz : W.heap.size + 1 < w3.heap.size := blk_lt BF3.out; have hsy : W.heap.size < w3.heap.size := blk_lt BK3.out) | (go_at_call 75; (fail_if_success have := HP4); (with_reducible refine (sign_of g toks en _ HN1.out _ _ _ _ _ _ _ HS.out ?s1 HLEN.out _ ?sp ?s2 ?s3 ?s4).mono ?_); (case sp => exact (Uq28 HP3.out)); (case s1 => decide); (case s2 => exact strC_new (by simp [World.setCell]) rfl (by decide)); (case s3 => decide); (case s4 => rfl); rintro e w4 ⟨rfl, hp, hb⟩; have HN4 := Lib.hid (Kd.N_step (show kN (W.heap.size + 1) _ (.slice A3 (l.length + 1) cc3) (l ++ [a]) from (Uq33 HN3.out)) (fun k hk hlt => hb.block k hlt (Nat.ne_of_gt (Nat.lt_trans (Nat.lt_succ_of_lt HG.out) hk)))); have HP4 := Lib.hid hp; have HB4 := Lib.hid (Bu.trans (g := g) (a := W.alloc nd0) (Uq29 HB3.out) hb); have BK4 := Lib.hid (hb.blk (k := W.heap.size) (o := nd0) (Uq30 BK3.out) (Nat.ne_of_gt HG.out)); have BF4 := Lib.hid (hb.blk (k := W.heap.size + 1) (o := fO s (.slice A3 (l.length + 1) cc3)) (Uq34 BF3.out) (Nat.ne_of_gt (Nat.lt_succ_of_lt HG.out))); clear hp hb; (try clear c0 c1 c2 c3 c4 c5 c6 c7 c8 c9 z0 z1 z2 z3 z4 z5 z6 z7 z8 z9); (try clear hsz); (try clear hsy); (try clear a0 a1 a2 a3 a4 a5 a6 a7 a8 a9 x0 x1 x2 x3 x4 x5 x6 x7 x8 x9); obtain ⟨⟨c0, c1, c2, c3, c4, c5, c6, c7, c8, c9⟩, z0, z1, z2, z3, z4, z5, z6, z7, z8, z9⟩ := z10 BK4.out; have hsy : W.heap.size < w4.heap.size := blk_lt BK4.out; obtain ⟨⟨a0, a1, a2, a3, a4, a5, a6, a7, a8, a9⟩, x0, x1, x2, x3, x4, x5, x6, x7, x8, x9⟩ := z10 BF4.out; have hsz : W.heap.size + 1 < w4.heap.size := blk_lt BF4.out) | (go_at_call 75; (fail_if_success have := HP5); (with_reducible refine (sign_of g toks en _ HN2_.out _ _ _ _ _ _ _ HS2.out ?s1 HLEN.out _ ?sp ?s2 ?s3 ?s4).mono ?_); (case sp => exact (Uq28 HP4.out)); (case s1 => decide); (case s2 => exact strC_new (by simp [World.setCell]) rfl (by decide)); (case s3 => decide); (case s4 => rfl); rintro e w5 ⟨rfl, hp, hb⟩; have HN5 := Lib.hid (Kd.N_step (show kN (W.heap.size + 1) _ (.slice A3 (l.length + 1) cc3) (l ++ [a]) from (Uq33 HN4.out)) (fun k hk hlt => hb.block k hlt (Nat.ne_of_gt (Nat.lt_trans (Nat.lt_succ_of_lt HG.out) hk)))); have HP5 := Lib.hid hp; have HB5 := Lib.hid (Bu.trans (g := g) (a := W.alloc nd0) (Uq29 HB4.out) hb); have BK5 := Lib.hid (hb.blk (k := W.heap.size) (o := nd0) (Uq30 BK4.out) (Nat.ne_of_gt HG.out)); have BF5 := Lib.hid (hb.blk (k := W.heap.size + 1) (o := fO s (.slice A3 (l.length + 1) cc3)) (Uq32 BF4.out) (Nat.ne_of_gt (Nat.lt_succ_of_lt HG.out))); clear hp hb; (try clear c0 c1 c2 c3 c4 c5 c6 c7 c8 c9 z0 z1 z2 z3 z4 z5 z6 z7 z8 z9); (try clear hsz); (try clear hsy); (try clear a0 a1 a2 a3 a4 a5 a6 a7 a8 a9 x0 x1 x2 x3 x4 x5 x6 x7 x8 x9); obtain ⟨⟨c0, c1, c2, c3, c4, c5, c6, c7, c8, c9⟩, z0, z1, z2, z3, z4, z5, z6, z7, z8, z9⟩ := z10 BK5.out; have hsy : W.heap.size < w5.heap.size := blk_lt BK5.out; obtain ⟨⟨a0, a1, a2, a3, a4, a5, a6, a7, a8, a9⟩, x0, x1, x2, x3, x4, x5, x6, x7, x8, x9⟩ := z10 BF5.out; have hsz : W.heap.size + 1 < w5.heap.size := blk_lt BF5.out) | (go_at_call 52; (with_reducible refine (fail_calls g toks en n3_ HN3_.out _ ?sp).mono ?_); (case sp => exact (Uq28 HP5.out)); rintro e w6 ⟨q, rfl, he, hq, hbl⟩; have HE := Lib.hid he; have HQ := Lib.hid (lo (g := g) (o := nd0) (W := W) (Uq29 HB5.out) hq); have hb := Bu.of_below (g := g) hbl; have hp := PS.below (g := g) (toks := toks) (en := en) (at_ := (n3_ : Int)) (Uq28 HP5.out) hbl; clear he hq hbl; have HP6 := Lib.hid hp; have HB6 := Lib.hid (Bu.trans (g := g) (a := W.alloc nd0) (Uq29 HB5.out) hb); have BK6 := Lib.hid (hb.blk (k := W.heap.size) (o := nd0) (Uq30 BK5.out) (Nat.ne_of_gt HG.out)); clear hp hb; (try clear c0 c1 c2 c3 c4 c5 c6 c7 c8 c9 z0 z1 z2 z3 z4 z5 z6 z7 z8 z9); (try clear hsz); (try clear hsy); (try clear a0 a1 a2 a3 a4 a5 a6 a7 a8 a9 x0 x1 x2 x3 x4 x5 x6 x7 x8 x9); obtain ⟨⟨c0, c1, c2, c3, c4, c5, c6, c7, c8, c9⟩, z0, z1, z2, z3, z4, z5, z6, z7, z8, z9⟩ := z10 BK6.out; have hsy : W.heap.size < w6.heap.size := blk_lt BK6.out))
      refine bodyPost_ret (results_ct rfl _ _ W.heap.size 31 _ (0, 0) _ rfl (Uq4 BK6.out) hu rfl (by kernel_rfl)) rfl ?_
      refine ⟨?_, ?_, q, ?_, ?_, Nat.le_of_lt HQ.out⟩
      · exact (Uq28 HP6.out)
      · exact (Uq31 HB6.out)
      · rfl
      · exact (Uq7 HE.out)
end Go.Proofs.YtnomfbmebafolaaGreatDoor.P

namespace Go.Proofs.YtnomfbmebafolaaGreatDoor.P
open Go.RowKit Go.Proofs.YtnomfbmebafolaaGreatDoorW.PrintWords Go.Proofs.YtnomfbmebafolaaGreatDoorW.PrintLast Go.Proofs.YtnomfbmebafolaaGreatDoorW.PrintMore
open M (I64)
set_option linter.unusedVariables false
set_option linter.unusedSimpArgs false
def DoesF (m : Nat) (toks : List Tok) (en : Int) (i : Int) (F : PF) : Prop := ∀ n, n ≤ toks.length → Does m toks en i n (F n)
theorem row_of {m : Nat} {toks : List Tok} {en i : Int} {part : PF} (l : List ByteArray) (hp : Fit toks part) (hd : DoesF m toks en i part) : ∀ (k : Nat) (a : TN) (n : Nat), n ≤ toks.length → toks.length - n < k → RowR m toks en i l a n (rowF toks part l k a n) := by
  intro k
  induction k with
  | zero => intro a n hn hk; omega
  | succ k ih =>
    intro a n hn hk
    unfold rowF
    rcases sign_cases toks n l with e | ⟨s, e, hlt⟩
    · rw [e]; exact .stop _ _ hn e
    · rw [e]
      dsimp only
      have hdo := hd (n + 1) (by omega)
      cases e2 : part (n + 1) with
      | mk r m2 =>
        have h2 := hp.le (by omega) e2
        rw [e2] at hdo
        cases r with
        | bad p c => exact .bad s (n + 1) p c m2 hn e hdo (by omega)
        | ok b => exact .more s (n + 1) b m2 hn e hdo (by omega) (ih (twoT s a b) m2 h2.2 (by omega))
theorem prod_does {toks : List Tok} {en i : Int} {pow : PF} (hlen : toks.length ≤ 1000000) (hp : Fit toks pow) (hd : DoesF 109 toks en i pow) : DoesF 93 toks en i (prodF toks pow) := by
  intro n hn
  have h := hd n hn
  unfold prodF rowsF
  cases e : pow n with
  | mk r m =>
    rw [e] at h
    cases r with
    | bad p c => exact product_bad toks en i n hlen m p c h
    | ok a => exact product_ok toks en i n hlen m a h _ (row_of prodL hp hd _ a m (hp.le hn e).2 (by omega))
theorem sum_does {toks : List Tok} {en i : Int} {prod : PF} (hlen : toks.length ≤ 1000000) (hp : Fit toks prod) (hd : DoesF 93 toks en i prod) : DoesF 74 toks en i (rowsF toks prod sumL) := by
  intro n hn
  have h := hd n hn
  unfold rowsF
  cases e : prod n with
  | mk r m =>
    rw [e] at h
    cases r with
    | bad p c => exact sum_bad toks en i n hlen m p c h
    | ok a => exact sum_ok toks en i n hlen m a h _ (row_of sumL hp hd _ a m (hp.le hn e).2 (by omega))
theorem form_does {toks : List Tok} {en i : Int} {sum : PF} (hlen : toks.length ≤ 1000000) (hi : 0 ≤ i) (h40 : ¬ 40 < i) (hs : Fit toks sum) (hd : DoesF 74 toks en i sum) : DoesF 51 toks en i (formF toks sum) := by
  intro n hn
  have h := hd n hn
  unfold formF
  cases e : sum n with
  | mk r m =>
    have hm := hs.le hn e
    rw [e] at h
    cases r with
    | bad p c => exact formula_abad toks en i n m p c h40 hi h
    | ok a =>
      dsimp only
      rcases sign_cases toks m sixL with e1 | ⟨s, e1, hlt⟩
      · rw [e1]; exact formula_one toks en i n m a h40 hi _ m e1 hm.2 hlen h
      · rw [e1]
        dsimp only
        have h2 := hd (m + 1) (by omega)
        cases e2 : sum (m + 1) with
        | mk r2 m2 =>
          rw [e2] at h2
          cases r2 with
          | bad p c => exact formula_bbad toks en i n m m2 a p c h40 hi s (m + 1) e1 hm.2 hlen h h2
          | ok b => exact formula_two toks en i n m m2 a b h40 hi s (m + 1) e1 hm.2 hlen h h2
theorem pow_does {toks : List Tok} {en i : Int} {un pow' : PF} (hlen : toks.length ≤ 1000000) (hi : 0 ≤ i) (h40 : ¬ 40 < i) (hs : Fit toks un) (hd : DoesF 125 toks en i un) (hd' : DoesF 109 toks en (i + 1) pow') : DoesF 109 toks en i (powF toks un pow') := by
  intro n hn
  have h := hd n hn
  unfold powF
  cases e : un n with
  | mk r m =>
    have hm := hs.le hn e
    rw [e] at h
    cases r with
    | bad p c => exact power_ubad toks en i n m p c h40 hi h
    | ok a =>
      dsimp only
      rcases sign_cases toks m [⟨#[94]⟩] with e1 | ⟨s, e1, hlt⟩
      · rw [e1]; exact power_one toks en i n m a h40 hi _ m e1 hm.2 hlen h
      · rw [e1]
        dsimp only
        have h2 := hd' (m + 1) (by omega)
        cases e2 : pow' (m + 1) with
        | mk r2 m2 =>
          rw [e2] at h2
          cases r2 with
          | bad p c => exact power_bbad toks en i n m m2 a p c h40 hi s (m + 1) e1 hm.2 hlen h h2
          | ok b => exact power_two toks en i n m m2 a b h40 hi s (m + 1) e1 hm.2 hlen h h2
theorem un_does {toks : List Tok} {en i : Int} {part un' : PF} (hlen : toks.length ≤ 1000000) (hi : 0 ≤ i) (h40 : ¬ 40 < i) (hd : DoesF 132 toks en i part) (hd' : DoesF 125 toks en (i + 1) un') : DoesF 125 toks en i (unF toks part un') := by
  intro n hn
  unfold unF
  rcases sign_cases toks n [⟨#[45]⟩] with e1 | ⟨s, e1, hlt⟩
  · rw [e1]
    dsimp only
    have h := hd n hn
    cases e : part n with
    | mk r m =>
      rw [e] at h
      cases r with
      | bad p c => exact unary_pbad toks en i n m p c h40 hi _ n e1 hn hlen h
      | ok a => exact unary_pok toks en i n m a h40 hi _ n e1 hn hlen h
  · rw [e1]
    dsimp only
    have h := hd' (n + 1) (by omega)
    cases e : un' (n + 1) with
    | mk r m =>
      rw [e] at h
      cases r with
      | bad p c => exact unary_ubad toks en i n m p c h40 hi s (n + 1) e1 hn hlen h
      | ok a => exact unary_uok toks en i n m a h40 hi s (n + 1) e1 hn hlen h
theorem within_does {toks : List Tok} {en i : Int} {form' : PF} (hlen : toks.length ≤ 1000000) (hi : 0 ≤ i) (h40 : ¬ 40 < i) (hs : Fit toks form') (hd' : DoesF 51 toks en (i + 1) form') : DoesF 135 toks en i (withinF toks en form') := by
  intro n hn
  have h := hd' n hn
  unfold withinF
  cases e : form' n with
  | mk r m =>
    have hm := hs.le hn e
    rw [e] at h
    cases r with
    | bad p c => exact within_bad toks en i n m p c ⟨hi, by omega⟩ h
    | ok a =>
      dsimp only
      rcases sign_cases toks m [⟨#[41]⟩] with e1 | ⟨s, e1, hlt⟩
      · rw [e1]; exact within_open toks en i n m a ⟨hi, by omega⟩ h _ m e1 hm.2 hlen hm.2
      · rw [e1]; exact within_ok toks en i n m a ⟨hi, by omega⟩ h s (m + 1) e1 hm.2 hlen
theorem parse_some (s : ByteArray) (hs : s.size ≤ 9223372036854775807) : ∃ r c b, addr_Parse.f s = some (r, c, b) := by
  unfold addr_Parse.f; rw [if_pos hs]; exact ⟨_, _, _, rfl⟩
theorem cell_does {toks : List Tok} {en : Int} (hlen : toks.length ≤ 1000000) (hsz : ∀ t ∈ toks, t.f2.size ≤ 1000000) (n : Nat) (hn : n ≤ toks.length) :
    (∀ r c, cellF toks n = some (r, c) → CellOk toks en n r c (n + 1)) ∧ (cellF toks n = none → CellBad toks en n (placeV toks en n) 13 n) := by
  unfold cellF
  cases e : toks[n]? with
  | none =>
    have := List.getElem?_eq_none_iff.1 e
    exact ⟨(fun _ _ h => by cases h), fun _ => cell_end toks en n hlen (by omega)⟩
  | some tk =>
    obtain ⟨hlt, hmem⟩ := List.getElem?_eq_some_iff.1 e
    have hsz' := hsz tk (hmem ▸ List.getElem_mem _)
    dsimp only
    by_cases h3 : tk.f0 = 3
    · rw [if_pos h3]
      by_cases ho : opensV toks n = true
      · rw [if_pos ho]; exact ⟨(fun _ _ h => by cases h), fun _ => cell_opens toks en n hlen tk e h3 ho⟩
      · rw [if_neg ho]
        have ho' : opensV toks n = false := by simpa using ho
        obtain ⟨r, c, b, ep⟩ := parse_some tk.f2 (by omega)
        rw [ep]
        cases b
        · exact ⟨(fun _ _ h => by cases h), fun _ => cell_none toks en n hlen tk e h3 ho' r c ep⟩
        · exact ⟨(fun r' c' h => by cases h; exact cell_ok toks en n hlen tk e h3 ho' r c ep), (fun h => by cases h)⟩
    · rw [if_neg h3]; exact ⟨(fun _ _ h => by cases h), fun _ => cell_kind toks en n hlen tk e h3⟩
theorem of_eq (s : ByteArray) : value_Of.f s = some (if s.size ≤ 200 then (3, 0, s) else (4, 7, ⟨#[]⟩)) := by
  unfold value_Of.f
  by_cases h : s.size ≤ 200
  · rw [if_neg (by omega), if_pos h]
  · rw [if_pos (by omega), if_neg h]
    unfold value_Fail.f; rw [if_neg (by omega), if_neg (by omega)]; rfl
theorem made_some (x y z u : Int) : addr_Made.f x y z u ≠ none := by
  have g : ∀ r c : Int, ∃ b, addr_Good.f r c = some b := by
    intro r c
    unfold addr_Good.f
    repeat' split
    all_goals exact ⟨_, rfl⟩
  obtain ⟨b1, e1⟩ := g x y
  obtain ⟨b2, e2⟩ := g z u
  unfold addr_Made.f
  rw [e1, Option.bind_some, e2]
  cases b1 <;> cases b2 <;> simp
theorem args_of {toks : List Tok} {en i : Int} {form' : PF} (s : ByteArray) (hf : Fit toks form') (hd : DoesF 51 toks en (i + 1) form') : ∀ (k : Nat) (l : List TN) (n : Nat), n ≤ toks.length → l.length + k = 10 → CallR toks en i s l n (argsF toks en form' s k l n) := by
  intro k
  induction k with
  | zero => intro l n hn hk; exact .full (by omega) hn
  | succ k ih =>
    intro l n hn hk
    have h := hd n hn
    unfold argsF
    cases e : form' n with
    | mk r m =>
      have hm := hf.le hn e
      rw [e] at h
      cases r with
      | bad p c => exact .bad (by omega) p c m h
      | ok a =>
        have hlt := hf.lt hn e
        dsimp only
        rcases sign_cases toks m [⟨#[44]⟩] with e1 | ⟨s1, e1, hl1⟩
        · rw [e1]
          dsimp only
          rcases sign_cases toks m [⟨#[41]⟩] with e2 | ⟨s2, e2, hl2⟩
          · rw [e2]; exact .open_ (by omega) a m h hm.2 _ m e1 hm.2 _ m e2 hm.2
          · rw [e2]; exact .done (by omega) a m h hm.2 _ m e1 hm.2 s2 (m + 1) e2
        · rw [e1]
          exact .more (by omega) a m h hm.2 hlt s1 (m + 1) e1 (by omega) (ih (l ++ [a]) (m + 1) (by omega) (by simp; omega))
theorem call_does {toks : List Tok} {en i : Int} {form' : PF} (hlen : toks.length ≤ 1000000) (hi : 0 ≤ i) (h40 : ¬ 40 < i) (s : ByteArray) (hs8 : s.size ≤ 1000000) (hf : Fit toks form') (hd : DoesF 51 toks en (i + 1) form') (n : Nat) (ho : opensV toks n = true) : DoesS 137 toks en i s n (callF toks en form' s n) := by
  have hn := opens_lt ho
  unfold callF
  by_cases h8 : 8 < s.size
  · rw [if_pos h8]; exact call_long toks en i s n hlen (by omega) h8 hs8
  · rw [if_neg h8]
    rcases sign_cases toks (n + 2) [⟨#[41]⟩] with e | ⟨s1, e, hlt⟩
    · rw [e]; exact call_args toks en i s n hlen hi h40 h8 (by omega) _ _ e _ (args_of s hf hd 10 [] (n + 2) (by omega) rfl)
    · rw [e]; exact call_none toks en i s n hlen h8 (by omega) s1 _ e
theorem name_does {toks : List Tok} {en i : Int} {form' : PF} (hlen : toks.length ≤ 1000000) (hsz : ∀ t ∈ toks, t.f2.size ≤ 1000000) (hi : 0 ≤ i) (h40 : ¬ 40 < i) (s : ByteArray) (hs8 : s.size ≤ 1000000) (hf : Fit toks form') (hd : DoesF 51 toks en (i + 1) form') (n : Nat) (hn : n < toks.length) : DoesS 134 toks en i s n (nameF toks en form' s n) := by
  unfold nameF
  by_cases h0 : opensV toks n = true
  · rw [if_pos h0]
    have h := call_does hlen hi h40 s hs8 hf hd n h0
    cases e : callF toks en form' s n with
    | mk r m =>
      rw [e] at h
      cases r with
      | bad p c => exact name_cbad toks en i s n (by omega) hlen h0 m p c h
      | ok a => exact name_cok toks en i s n (by omega) hlen h0 m a h
  · rw [if_neg h0]
    have ho : opensV toks n = false := by simpa using h0
    by_cases h1 : (s.toList == ([84, 82, 85, 69] : List UInt8)) = true
    · rw [if_pos h1]; exact name_true toks en i s n (by omega) hlen ho h1
    · rw [if_neg h1]
      have h1' : (s.toList == ([84, 82, 85, 69] : List UInt8)) = false := by simpa using h1
      by_cases h2 : (s.toList == ([70, 65, 76, 83, 69] : List UInt8)) = true
      · rw [if_pos h2]; exact name_false toks en i s n (by omega) hlen ho h1' h2
      · rw [if_neg h2]
        have h2' : (s.toList == ([70, 65, 76, 83, 69] : List UInt8)) = false := by simpa using h2
        have ha := cell_does (en := en) hlen hsz n (by omega)
        cases ea : cellF toks n with
        | none => exact name_abad toks en i s n (by omega) hlen ho h1' h2' n _ _ (ha.2 ea)
        | some x =>
          obtain ⟨r, c⟩ := x
          have hok := ha.1 r c ea
          dsimp only
          rcases sign_cases toks (n + 1) [⟨#[58]⟩] with e | ⟨s1, e, hlt⟩
          · rw [e]; exact name_cell toks en i s n (by omega) hlen ho h1' h2' r c (n + 1) hok _ _ e (by omega)
          · rw [e]
            have hb := cell_does (en := en) hlen hsz (n + 1 + 1) (by omega)
            dsimp only
            cases eb : cellF toks (n + 1 + 1) with
            | none => exact name_bbad toks en i s n (by omega) hlen ho h1' h2' r c (n + 1) hok s1 _ e (by omega) _ _ _ (hb.2 eb)
            | some y =>
              obtain ⟨x, y⟩ := y
              have hok2 := hb.1 x y eb
              dsimp only
              cases em : addr_Made.f r c x y with
              | none => exact absurd em (made_some r c x y)
              | some z =>
                obtain ⟨z1, z2, z3, z4, z5⟩ := z
                exact name_range toks en i s n (by omega) hlen ho h1' h2' r c (n + 1) hok s1 _ e (by omega) _ x y hok2 z1 z2 z3 z4 z5 em
theorem part_does {toks : List Tok} {en i : Int} {form' : PF} (hlen : toks.length ≤ 1000000) (hsz : ∀ t ∈ toks, t.f2.size ≤ 1000000) (hi : 0 ≤ i) (h40 : ¬ 40 < i) (hf : Fit toks form') (hd : DoesF 51 toks en (i + 1) form') : DoesF 132 toks en i (partF toks en form') := by
  intro n hn
  unfold partF
  cases e : toks[n]? with
  | none =>
    have := List.getElem?_eq_none_iff.1 e
    exact part_end toks en i n (by omega)
  | some tk =>
    obtain ⟨hlt, hmem⟩ := List.getElem?_eq_some_iff.1 e
    have hsz' := hsz tk (hmem ▸ List.getElem_mem _)
    dsimp only
    by_cases h1 : tk.f0 = 1
    · rw [if_pos h1]; exact part_int toks en i n tk e hlen h1
    · rw [if_neg h1]
      by_cases h2 : tk.f0 = 2
      · rw [if_pos h2]
        by_cases hs : tk.f2.size ≤ 200
        · rw [if_pos hs]; exact part_text toks en i n tk e hlen h2 (by rw [of_eq, if_pos hs])
        · rw [if_neg hs]; exact part_long toks en i n tk e hlen h2 (by rw [of_eq, if_neg hs])
      · rw [if_neg h2]
        by_cases h3 : tk.f0 = 3
        · rw [if_pos h3]
          have h := name_does hlen hsz hi h40 tk.f2 hsz' hf hd n hlt
          cases en_ : nameF toks en form' tk.f2 n with
          | mk r m =>
            rw [en_] at h
            cases r with
            | bad p c => exact part_nbad toks en i n tk e hlen h3 m p c h
            | ok a => exact part_nok toks en i n tk e hlen h3 m a h
        · rw [if_neg h3]
          by_cases h4 : tk.f0 = 4
          · rw [if_pos h4]
            rcases sign_cases toks n [⟨#[40]⟩] with e1 | ⟨s1, e1, hlt1⟩
            · rw [e1]; exact part_sign toks en i n tk e hlen h4 _ _ e1 hn
            · rw [e1]
              dsimp only
              have h := within_does hlen hi h40 hf hd (n + 1) (by omega)
              cases ew : withinF toks en form' (n + 1) with
              | mk r m =>
                rw [ew] at h
                cases r with
                | bad p c => exact part_wbad toks en i n tk e hlen h4 s1 _ e1 m p c h
                | ok a => exact part_wok toks en i n tk e hlen h4 s1 _ e1 m a h
          · rw [if_neg h4]; exact part_other toks en i n tk e hlen h1 h2 h3 h4
theorem lv_does {toks : List Tok} {en : Int} (hlen : toks.length ≤ 1000000) (hsz : ∀ t ∈ toks, t.f2.size ≤ 1000000) : ∀ (d : Nat) (i : Int), i + d = 41 → 0 ≤ i →
    DoesF 51 toks en i (lv toks en d).form ∧ DoesF 109 toks en i (lv toks en d).pow ∧ DoesF 125 toks en i (lv toks en d).un := by
  intro d
  induction d with
  | zero =>
    intro i hd hi
    exact ⟨fun n _ => formula_deep toks en i n (by omega), fun n _ => power_deep toks en i n (by omega), fun n _ => unary_deep toks en i n (by omega)⟩
  | succ d ih =>
    intro i hd hi
    obtain ⟨h1, h2, h3⟩ := ih (i + 1) (by omega) (by omega)
    obtain ⟨f1, f2, f3⟩ := fit_lv toks en d
    have h40 : ¬ 40 < i := by omega
    have hpart := part_does hlen hsz hi h40 f1 h1
    have fpart := fit_part (en := en) f1
    have hun := un_does hlen hi h40 hpart h3
    have fun_ := fit_un fpart f3
    have hpow := pow_does hlen hi h40 fun_ hun h2
    have fpow := fit_pow fun_ f2
    have hprod := prod_does hlen fpow hpow
    have fprod := fit_rows fpow prodL
    have hsum := sum_does hlen fprod hprod
    have fsum := fit_rows fprod sumL
    exact ⟨form_does hlen hi h40 fsum hsum, hpow, hun⟩
theorem formula_does {toks : List Tok} {en : Int} (hlen : toks.length ≤ 1000000) (hsz : ∀ t ∈ toks, t.f2.size ≤ 1000000) : Does 51 toks en 0 0 ((lv toks en 41).form 0) :=
  (lv_does hlen hsz 41 0 (by omega) (by omega)).1 0 (Nat.zero_le _)
end Go.Proofs.YtnomfbmebafolaaGreatDoor.P

namespace Go.Proofs.YtnomfbmebafolaaGreatDoor.P
open Go.RowKit Go.Extern.Stop Go.Stop Go.Extern
set_option linter.unusedVariables false
set_option linter.unusedSimpArgs false
theorem ea_nil (t : Value) (w : World) :
    Calls Tryz.prog 33 #[.nilIface, t] w fun e w' => e = .returned (.bool false) ∧ w' = w := by
  go_enter Tryz.func33, Tryz.ntmps33
  go_wp2
  go_ret
  exact ⟨rfl, rfl⟩
theorem ea_valueOf27 (t : Addr) (w : World) : (ReflectliteValue.unpack (.iface 80 (.pointer (some t)))).run Tryz.prog w
    = .ok (.agg #[.pointer (some ⟨10, 80, none⟩), .pointer (some ⟨w.heap.size, 0, none⟩), .int .u64 150]) (w.alloc (.cells #[.pointer (some t)] 80)) := by kernel_rfl
theorem ea_type27 (a : Addr) (w : World) : (ReflectliteValue.methodAny (ReflectliteValue.valueError "reflectlite.Value.Type" 0) (fun t _ _ _ => ReflectliteType.toType t) #[.agg #[.pointer (some ⟨10, 80, none⟩), .pointer (some a), .int .u64 150]]).run Tryz.prog w
    = .ok (.iface 145 (.agg #[.pointer (some ⟨10, 80, none⟩)])) w := by kernel_rfl
theorem ea_methodKind (h : Value) (w : World) : (Go.method 342 145 (.agg #[h]) "Kind").run Tryz.prog w = .ok (155, h) w := by kernel_rfl
theorem ea_kind27 (w : World) : ((ReflectliteType.abiMethod fun t => (fun a : Nat => Value.int IntKind.u8 (a : Int)) <$> Rtype.kind t) #[.pointer (some ⟨10, 80, none⟩)]).run Tryz.prog w = .ok (.int .u8 22) w := by kernel_rfl
theorem ea_kind25 (w : World) : ((ReflectliteType.abiMethod fun t => (fun a : Nat => Value.int IntKind.u8 (a : Int)) <$> Rtype.kind t) #[.pointer (some ⟨10, 78, none⟩)]).run Tryz.prog w = .ok (.int .u8 22) w := by kernel_rfl
theorem ea_rlm (z : Sem Value) (f : TypeId → Addr → Nat → Nat → Sem Value) (v : Value) :
    ReflectliteValue.method z f #[v] = (do match ← ReflectliteValue.parts v with | none => z | some (t, a, fl) => f t a fl (fl % 32)) := rfl
theorem ea_parts27 (a : Addr) (w : World) : (ReflectliteValue.parts (.agg #[.pointer (some ⟨10, 80, none⟩), .pointer (some a), .int .u64 150])).run Tryz.prog w = .ok (some (80, a, 150)) w := by kernel_rfl
theorem ea_isNil27 (a p : Addr) (W : World) (ha : W.cell? a = some (.pointer (some p))) :
    (ReflectliteValue.method (ReflectliteValue.valueError "reflectlite.Value.IsNil" 0) ReflectliteValue.isNil #[.agg #[.pointer (some ⟨10, 80, none⟩), .pointer (some a), .int .u64 150]]).run Tryz.prog W = .ok (.bool false) W := by
  rw [ea_rlm]
  simp only [Sem.run_bind, ea_parts27, Result.andThen]
  simp [ReflectliteValue.isNil, loadVar, isAgg, underlying, Tryz.underlying80, ha, Result.andThen]
theorem ea_methodElem (h : Value) (w : World) : (Go.method 342 145 (.agg #[h]) "Elem").run Tryz.prog w = .ok (169, .agg #[h]) w := by kernel_rfl
theorem ea_methodImplements (h : Value) (w : World) : (Go.method 342 145 (.agg #[h]) "Implements").run Tryz.prog w = .ok (170, .agg #[h]) w := by kernel_rfl
theorem ea_methodAssignableTo (h : Value) (w : World) : (Go.method 342 145 (.agg #[h]) "AssignableTo").run Tryz.prog w = .ok (167, .agg #[h]) w := by kernel_rfl
theorem ea_elem27 (w : World) : (ReflectliteType.method ReflectliteType.elem #[.agg #[.pointer (some ⟨10, 80, none⟩)]]).run Tryz.prog w = .ok (.iface 145 (.agg #[.pointer (some ⟨10, 78, none⟩)])) w := by kernel_rfl
theorem ea_implements25 (w : World) : (ReflectliteType.relation "Implements" ReflectliteType.implements_ #[.agg #[.pointer (some ⟨10, 78, none⟩)], .iface 145 (.agg #[.pointer (some ⟨10, 64, none⟩)])]).run Tryz.prog w = .ok (.bool true) w := by kernel_rfl
theorem ea_typeOf25 (v : Value) (w : World) : (ReflectliteType.typeOf #[.iface 78 v]).run Tryz.prog w = .ok (.iface 145 (.agg #[.pointer (some ⟨10, 78, none⟩)])) w := by kernel_rfl
theorem ea_assignable25 (w : World) : (ReflectliteType.relation "AssignableTo" ReflectliteType.assignableTo #[.agg #[.pointer (some ⟨10, 78, none⟩)], .iface 145 (.agg #[.pointer (some ⟨10, 78, none⟩)])]).run Tryz.prog w = .ok (.bool true) w := by kernel_rfl
theorem ea_valueOf25 (e : Addr) (w : World) : (ReflectliteValue.unpack (.iface 78 (.pointer (some e)))).run Tryz.prog w
    = .ok (.agg #[.pointer (some ⟨10, 78, none⟩), .pointer (some ⟨w.heap.size, 0, none⟩), .int .u64 150]) (w.alloc (.cells #[.pointer (some e)] 78)) := by kernel_rfl
theorem ea_elemOf27 (w : World) : (Rtype.elem? 80).run Tryz.prog w = .ok (some 78) w := by kernel_rfl
theorem ea_mk25 (p : Addr) (w : World) : (ReflectliteValue.mk 78 p ReflectliteValue.flagAddr).run Tryz.prog w = .ok (.agg #[.pointer (some ⟨10, 78, none⟩), .pointer (some p), .int .u64 406]) w := by kernel_rfl
theorem ea_elemV27 (a p : Addr) (W : World) (ha : W.cell? a = some (.pointer (some p))) :
    (ReflectliteValue.method (ReflectliteValue.valueError "reflectlite.Value.Elem" 0) ReflectliteValue.elem #[.agg #[.pointer (some ⟨10, 80, none⟩), .pointer (some a), .int .u64 150]]).run Tryz.prog W
      = .ok (.agg #[.pointer (some ⟨10, 78, none⟩), .pointer (some p), .int .u64 406]) W := by
  rw [ea_rlm]
  simp only [Sem.run_bind, ea_parts27, Result.andThen]
  simp [ReflectliteValue.elem, loadVar, isAgg, underlying, Tryz.underlying80, ha, Result.andThen, ea_elemOf27, ea_mk25]
theorem ea_rls (v x : Value) : ReflectliteValue.set #[v, x] = (do
    let (some (dst, a, fl), some (src, b, _)) := (← ReflectliteValue.parts v, ← ReflectliteValue.parts x)
      | unsupported (.noEntry "extern/(internal/reflectlite.Value).Set.zeroValue")
    if fl / ReflectliteValue.flagAddr % 2 == 0 then unsupported (.noEntry "extern/(internal/reflectlite.Value).Set.unaddressable")
    let val ← loadVar src b
    if ← Rtype.directlyAssignable dst src then storeVar dst a val
    else if ← Rtype.implements dst src then
      if (← Rtype.kind src) == 20 then
        match val with
        | .nilIface => unsupported (.noEntry "extern/reflectlite: a nil value of one interface type handed on as a value of another")
        | _ => storeVar dst a val
      else storeVar dst a (.iface src val)
    else panicString ("reflectlite.Set: value of type " ++ (← Rtype.spelt src) ++ " is not assignable to type " ++ (← Rtype.spelt dst))
    pure (.tuple #[])) := rfl
theorem ea_parts25a (a : Addr) (w : World) : (ReflectliteValue.parts (.agg #[.pointer (some ⟨10, 78, none⟩), .pointer (some a), .int .u64 406])).run Tryz.prog w = .ok (some (78, a, 406)) w := by kernel_rfl
theorem ea_parts25 (a : Addr) (w : World) : (ReflectliteValue.parts (.agg #[.pointer (some ⟨10, 78, none⟩), .pointer (some a), .int .u64 150])).run Tryz.prog w = .ok (some (78, a, 150)) w := by kernel_rfl
theorem ea_direct25 (w : World) : (Rtype.directlyAssignable 78 78).run Tryz.prog w = .ok true w := by kernel_rfl
theorem ea_set25 (ta b e : Addr) (old : Value) (W : World) (hb : W.cell? b = some (.pointer (some e))) (ht : W.cell? ta = some old) (hf : W.frozen? ta = false) :
    (ReflectliteValue.set #[.agg #[.pointer (some ⟨10, 78, none⟩), .pointer (some ta), .int .u64 406], .agg #[.pointer (some ⟨10, 78, none⟩), .pointer (some b), .int .u64 150]]).run Tryz.prog W
      = .ok (.tuple #[]) (W.setCell ta (.pointer (some e))) := by
  rw [ea_rls]
  simp only [Sem.run_bind, ea_parts25a, ea_parts25, Result.andThen]
  simp [ReflectliteValue.flagAddr, loadVar, isAgg, underlying, Tryz.underlying78, hb, Result.andThen, ea_direct25, storeVar, Value.cells, storeCells, Addr.add]
  rw [run_store Tryz.prog W ta _ _ (by rfl)]
  simp [ht, hf]
set_option maxHeartbeats 4000000 in
theorem ea_hit (e t : Addr) (old : Value) (w : World) (hg : w.cell? ⟨1, 0, none⟩ = some (.iface 145 (.agg #[.pointer (some ⟨10, 64, none⟩)]))) (ht0 : w.cell? t = some old) (hf0 : w.frozen? t = false) :
    Calls Tryz.prog 33 #[.iface 78 (.pointer (some e)), .iface 80 (.pointer (some t))] w fun ev w' => ev = .returned (.bool true) ∧ w' = ((((w.alloc (.cells #[.pointer (some t)] 80)).alloc (.cells #[.pointer (some ⟨10, 80, none⟩), .pointer (some ⟨w.heap.size, 0, none⟩), .int .u64 150] 112)).alloc (.cells #[.pointer (some ⟨10, 80, none⟩), .pointer (some ⟨w.heap.size, 0, none⟩), .int .u64 150] 112)).alloc (.cells #[.pointer (some e)] 78)).setCell t (.pointer (some e)) := by
  have h6 := @run_callFunc_extern Tryz.prog 53 _ (fun args => ReflectliteValue.unpack (args.getD 0 (.tuple #[]))) Tryz.func53 (by kernel_rfl) (by kernel_rfl) (by kernel_rfl) (by kernel_rfl)
  have h7 := @run_callFunc_extern Tryz.prog 54 _ (ReflectliteValue.methodAny (ReflectliteValue.valueError "reflectlite.Value.Type" 0) (fun t _ _ _ => ReflectliteType.toType t)) Tryz.func54 (by kernel_rfl) (by kernel_rfl) (by kernel_rfl) (by kernel_rfl)
  have h8 := @run_callFunc_extern Tryz.prog 55 _ (ReflectliteValue.method (ReflectliteValue.valueError "reflectlite.Value.IsNil" 0) ReflectliteValue.isNil) Tryz.func55 (by kernel_rfl) (by kernel_rfl) (by kernel_rfl) (by kernel_rfl)
  have h27 := @run_callFunc_extern Tryz.prog 155 _ (ReflectliteType.abiMethod fun t => do pure (.int .u8 (← Rtype.kind t))) Tryz.func155 (by kernel_rfl) (by kernel_rfl) (by kernel_rfl) (by kernel_rfl)
  have h37 := @run_callFunc_extern Tryz.prog 169 _ (ReflectliteType.method ReflectliteType.elem) Tryz.func169 (by kernel_rfl) (by kernel_rfl) (by kernel_rfl) (by kernel_rfl)
  have h38 := @run_callFunc_extern Tryz.prog 170 _ (ReflectliteType.relation "Implements" ReflectliteType.implements_) Tryz.func170 (by kernel_rfl) (by kernel_rfl) (by kernel_rfl) (by kernel_rfl)
  have h10 := @run_callFunc_extern Tryz.prog 61 _ ReflectliteType.typeOf Tryz.func61 (by kernel_rfl) (by kernel_rfl) (by kernel_rfl) (by kernel_rfl)
  have h35 := @run_callFunc_extern Tryz.prog 167 _ (ReflectliteType.relation "AssignableTo" ReflectliteType.assignableTo) Tryz.func167 (by kernel_rfl) (by kernel_rfl) (by kernel_rfl) (by kernel_rfl)
  have h11 := @run_callFunc_extern Tryz.prog 78 _ (ReflectliteValue.method (ReflectliteValue.valueError "reflectlite.Value.Elem" 0) ReflectliteValue.elem) Tryz.func78 (by kernel_rfl) (by kernel_rfl) (by kernel_rfl) (by kernel_rfl)
  have h12 := @run_callFunc_extern Tryz.prog 79 _ ReflectliteValue.set Tryz.func79 (by kernel_rfl) (by kernel_rfl) (by kernel_rfl) (by kernel_rfl)
  have tO := ea_typeOf25
  have mA := ea_methodAssignableTo
  have a25 := ea_assignable25
  have v25 := ea_valueOf25
  have f6 := ea_valueOf27
  have f7 := ea_type27
  have mK := ea_methodKind
  have mE := ea_methodElem
  have mI := ea_methodImplements
  have k27 := ea_kind27
  have k25 := ea_kind25
  have e27 := ea_elem27
  have i25 := ea_implements25
  have n8 := ea_isNil27 ⟨w.heap.size, 0, none⟩ t ((w.alloc (.cells #[.pointer (some t)] 80)).alloc (.cells #[.pointer (some ⟨10, 80, none⟩), .pointer (some ⟨w.heap.size, 0, none⟩), .int .u64 150] 112)) (by simp)
  have hlt : 1 < w.heap.size := World.block_lt_of_cell? w _ hg
  have hg2 : ((w.alloc (.cells #[.pointer (some t)] 80)).alloc (.cells #[.pointer (some ⟨10, 80, none⟩), .pointer (some ⟨w.heap.size, 0, none⟩), .int .u64 150] 112)).cell? ⟨1, 0, none⟩ = some (.iface 145 (.agg #[.pointer (some ⟨10, 64, none⟩)])) := by
    rw [World.cell?_alloc_lt _ _ ⟨1, 0, none⟩ (by simp; try omega), World.cell?_alloc_lt _ _ ⟨1, 0, none⟩ hlt]; exact hg
  have htl : t.block < w.heap.size := by
    rcases Nat.lt_or_ge t.block w.heap.size with h | h
    · exact h
    · simp [World.cell?, Array.getElem?_eq_none h] at ht0
  have el := ea_elemV27 ⟨w.heap.size, 0, none⟩ t (((w.alloc (.cells #[.pointer (some t)] 80)).alloc (.cells #[.pointer (some ⟨10, 80, none⟩), .pointer (some ⟨w.heap.size, 0, none⟩), .int .u64 150] 112)).alloc (.cells #[.pointer (some ⟨10, 80, none⟩), .pointer (some ⟨w.heap.size, 0, none⟩), .int .u64 150] 112)) (by rw [World.cell?_alloc_lt _ _ ⟨w.heap.size, 0, none⟩ (by simp; omega)]; simp)
  have st := ea_set25 t ⟨w.heap.size + 1 + 1 + 1, 0, none⟩ e old ((((w.alloc (.cells #[.pointer (some t)] 80)).alloc (.cells #[.pointer (some ⟨10, 80, none⟩), .pointer (some ⟨w.heap.size, 0, none⟩), .int .u64 150] 112)).alloc (.cells #[.pointer (some ⟨10, 80, none⟩), .pointer (some ⟨w.heap.size, 0, none⟩), .int .u64 150] 112)).alloc (.cells #[.pointer (some e)] 78))
    (by rw [World.cell?_alloc_at _ _ _ _ (by simp)]; rfl)
    (by rw [World.cell?_alloc_lt _ _ t (by simp; omega), World.cell?_alloc_lt _ _ t (by simp; omega), World.cell?_alloc_lt _ _ t (by simp; omega), World.cell?_alloc_lt _ _ t htl]; exact ht0)
    (by rw [World.frozen?_alloc_old _ _ t (by simp; omega), World.frozen?_alloc_old _ _ t (by simp; omega), World.frozen?_alloc_old _ _ t (by simp; omega), World.frozen?_alloc_old _ _ t (Nat.ne_of_lt htl)]; exact hf0)
  go_enter Tryz.func33, Tryz.ntmps33
  go_wp2
  refine wp_loop_rounds 1 ?_
  rw [rounds_succ]
  go_wp2
  go_ret
  exact ⟨rfl, rfl⟩
end Go.Proofs.YtnomfbmebafolaaGreatDoor.P

namespace Go.Proofs.YtnomfbmebafolaaGreatDoor.P
open Go.RowKit Go.Proofs.YtnomfbmebafolaaGreatDoorW.PrintWords Go.Proofs.YtnomfbmebafolaaGreatDoorW.PrintLast Go.Proofs.YtnomfbmebafolaaGreatDoorW.PrintMore
set_option linter.unusedVariables false
set_option linter.unusedSimpArgs false
def strings_IndexByte.f (a0 : ByteArray) (a1 : Int) : Option Int := some (Lib.indexByte a0.data.toList a1.toNat.toUInt8)
theorem strings_IndexByte.calls (a0 : ByteArray) (a1 : Int) (r : Int) (w : World) (h : strings_IndexByte.f a0 a1 = some r) :
    Calls Tryz.prog 85 #[.string a0, .int .u8 a1] w fun e w' => e = .returned (.int .i64 r) ∧ Below w.heap.size w w' := by
  injection h with h
  subst h
  refine (Tryz.strings_IndexByte a0 a1 w).mono ?_
  rintro e w' ⟨rfl, rfl⟩
  exact ⟨rfl, Below.refl _ _⟩
end Go.Proofs.YtnomfbmebafolaaGreatDoor.P

namespace Go.Proofs.YtnomfbmebafolaaGreatDoor.P
open Go.RowKit Go.Proofs.YtnomfbmebafolaaGreatDoorW.PrintWords Go.Proofs.YtnomfbmebafolaaGreatDoorW.PrintLast Go.Proofs.YtnomfbmebafolaaGreatDoorW.PrintMore
attribute [local go_sem] max2_int min2_int max_two min_two max_three min_three max_four min_four   -- for this text's walks alone
set_option linter.unusedVariables false
set_option linter.unusedSimpArgs false
mutual
def lex_kind.j0 : Nat → Int → Bool → Option (Int)
  | 0, _, _ => none
  | k + 1, x0, x3 => if x3 = true then (some 3) else (if x0 ≥ 65 then (lex_kind.j1 k x0 (decide (x0 ≤ 90))) else (lex_kind.j1 k x0 false))
def lex_kind.j1 : Nat → Int → Bool → Option (Int)
  | 0, _, _ => none
  | k + 1, x0, x10 => if x10 = true then (some 3) else (if x0 ≥ 48 then (lex_kind.j2 k x0 (decide (x0 ≤ 57))) else (lex_kind.j2 k x0 false))
def lex_kind.j2 : Nat → Int → Bool → Option (Int)
  | 0, _, _ => none
  | k + 1, x0, x17 => if x17 = true then (some 2) else (if x0 = 32 then (some 1) else (if x0 = 34 then (some 4) else ((strings_IndexByte.f (⟨#[43, 45, 42, 47, 37, 94, 38, 61, 60, 62, 40, 41, 44, 58]⟩ : ByteArray) x0).bind fun t101 => (if t101 ≥ 0 then (some 5) else (some 0)))))
end
def lex_kind.f (k : Nat) (a0 : Int) : Option (Int) := if a0 ≥ 97 then (lex_kind.j0 k a0 (decide (a0 ≤ 122))) else (lex_kind.j0 k a0 false)
theorem lex_kind.mono_l : ∀ k, (∀ y0 y1, LeO (lex_kind.j0 k y0 y1) (lex_kind.j0 (k + 1) y0 y1)) ∧ (∀ y0 y1, LeO (lex_kind.j1 k y0 y1) (lex_kind.j1 (k + 1) y0 y1)) ∧ (∀ y0 y1, LeO (lex_kind.j2 k y0 y1) (lex_kind.j2 (k + 1) y0 y1))
  | 0 => ⟨fun _ _ r h => by simp [lex_kind.j0] at h, fun _ _ r h => by simp [lex_kind.j1] at h, fun _ _ r h => by simp [lex_kind.j2] at h⟩
  | k + 1 => by
    obtain ⟨ih0, ih1, ih2⟩ := lex_kind.mono_l k
    refine ⟨?_, ?_, ?_⟩
    · intro y0 y1
      unfold lex_kind.j0
      repeat' first
      | (with_reducible exact ih0 _ _)
      | (with_reducible exact ih1 _ _)
      | (with_reducible exact ih2 _ _)
      | (with_reducible exact LeO.refl _)
      | (with_reducible exact LeO.none _)
      | (with_reducible refine LeO.ite ?_ ?_)
      | (with_reducible refine LeO.bind ?_ (fun _ => ?_))
      | exact ih0 _ _
      | exact ih1 _ _
      | exact ih2 _ _
      | exact LeO.none _
      | refine LeO.ite ?_ ?_
      | refine LeO.bind ?_ (fun _ => ?_)
    · intro y0 y1
      unfold lex_kind.j1
      repeat' first
      | (with_reducible exact ih0 _ _)
      | (with_reducible exact ih1 _ _)
      | (with_reducible exact ih2 _ _)
      | (with_reducible exact LeO.refl _)
      | (with_reducible exact LeO.none _)
      | (with_reducible refine LeO.ite ?_ ?_)
      | (with_reducible refine LeO.bind ?_ (fun _ => ?_))
      | exact ih0 _ _
      | exact ih1 _ _
      | exact ih2 _ _
      | exact LeO.none _
      | refine LeO.ite ?_ ?_
      | refine LeO.bind ?_ (fun _ => ?_)
    · intro y0 y1
      unfold lex_kind.j2
      repeat' first
      | (with_reducible exact ih0 _ _)
      | (with_reducible exact ih1 _ _)
      | (with_reducible exact ih2 _ _)
      | (with_reducible exact LeO.refl _)
      | (with_reducible exact LeO.none _)
      | (with_reducible refine LeO.ite ?_ ?_)
      | (with_reducible refine LeO.bind ?_ (fun _ => ?_))
      | exact ih0 _ _
      | exact ih1 _ _
      | exact ih2 _ _
      | exact LeO.none _
      | refine LeO.ite ?_ ?_
      | refine LeO.bind ?_ (fun _ => ?_)
theorem lex_kind.mono : ∀ a0 k, LeO (lex_kind.f k a0) (lex_kind.f (k + 1) a0) := by
  intro a0 k
  obtain ⟨ih0, ih1, ih2⟩ := lex_kind.mono_l k
  unfold lex_kind.f
  repeat' first
      | (with_reducible exact ih0 _ _)
      | (with_reducible exact ih1 _ _)
      | (with_reducible exact ih2 _ _)
      | (with_reducible exact LeO.refl _)
      | (with_reducible exact LeO.none _)
      | (with_reducible refine LeO.ite ?_ ?_)
      | (with_reducible refine LeO.bind ?_ (fun _ => ?_))
      | exact ih0 _ _
      | exact ih1 _ _
      | exact ih2 _ _
      | exact LeO.none _
      | refine LeO.ite ?_ ?_
      | refine LeO.bind ?_ (fun _ => ?_)
set_option maxHeartbeats 8000000 in
set_option maxRecDepth 100000 in
theorem lex_kind.calls (k : Nat) (a0 : Int) (r : Int) (w : World) (h : lex_kind.f k a0 = some r) :
    Calls Tryz.prog 71 #[.int .u8 a0] w fun e w' => e = .returned (.int .i64 r) ∧ Below w.heap.size w w' := by
  have HB := Aside0.mk (Below.refl w.heap.size w)
  have H : (if a0 ≥ 97 then (lex_kind.j0 k a0 (decide (a0 ≤ 122))) else (lex_kind.j0 k a0 false)) = some r := h
  clear h
  have HC2 := Aside0.mk H
  clear H
  go_enter Tryz.func71, Tryz.ntmps71
  go_upto_region 1 with (fail)
  go_cut [3] (fun v3 wc => ∃ (kq : Nat) (x3_1 : Bool), v3 = .bool x3_1 ∧ Aside0 (lex_kind.j0 kq a0 x3_1 = some r) ∧ Aside0 (kq ≤ k) ∧ Aside0 (Below w.heap.size w wc))
  case first =>
    have H := HC2.out
    clear HC2
    by_cases c3 : a0 ≥ 97
    · rw [if_pos c3] at H
      have c3b0 : decide (97 ≤ a0) = true := decide_eq_true c3
      clear c3
      (first | rw [c3b0] | (simp only [i64_w, i32_w]; rw [c3b0]) | skip)
      have H' := Aside0.mk H
      clear H
      go_wp2
      go_meet
      case rel => exact ⟨_, (decide (a0 ≤ 122)), zz27, H', ⟨by first | omega | exact Nat.le_refl _⟩, ⟨zz1⟩⟩
    · rw [if_neg c3] at H
      have c3b0 : decide (97 ≤ a0) = false := decide_eq_false c3
      clear c3
      (first | rw [c3b0] | (simp only [i64_w, i32_w]; rw [c3b0]) | skip)
      have H' := Aside0.mk H
      clear H
      go_wp2
      go_meet
      case rel => exact ⟨_, (false), zz27, H', ⟨by first | omega | exact Nat.le_refl _⟩, ⟨zz1⟩⟩
  case rest =>
    clear HC2
    try clear p2
    try clear c3
    try clear c3b0
    obtain ⟨kq, x3_1, rfl, HA, HJ1, HB⟩ := hcut
    cases kq with
    | zero => exact absurd HA.out (by simp [lex_kind.j0])
    | succ kj1 =>
      have H := HA.out
      clear HA
      simp only [lex_kind.j0] at H
      by_cases c4 : x3_1 = true
      · subst c4
        have H1 : (some 3) = some r := by rw [if_pos rfl] at H; exact H
        clear H
        have H := H1
        clear H1
        obtain rfl := Option.some.inj H
        go_wp2
        go_ret
        exact ⟨zz26, zz1⟩
      · replace c4 := Bool.eq_false_iff.mpr c4
        subst c4
        have H1 : (if a0 ≥ 65 then (lex_kind.j1 kj1 a0 (decide (a0 ≤ 90))) else (lex_kind.j1 kj1 a0 false)) = some r := by rw [if_neg (show ¬ (false = true) by decide)] at H; exact H
        clear H
        have H := H1
        clear H1
        have HC5 := Aside0.mk H
        clear H
        go_upto_region 2 with (fail)
        go_cut [10] (fun v10 wc => ∃ (kq : Nat) (x10_4 : Bool), v10 = .bool x10_4 ∧ Aside0 (lex_kind.j1 kq a0 x10_4 = some r) ∧ Aside0 (kq ≤ kj1) ∧ Aside0 (Below w.heap.size w wc))
        case first =>
          have H := HC5.out
          clear HC5
          by_cases c6 : a0 ≥ 65
          · rw [if_pos c6] at H
            have c6b0 : decide (65 ≤ a0) = true := decide_eq_true c6
            clear c6
            (first | rw [c6b0] | (simp only [i64_w, i32_w]; rw [c6b0]) | skip)
            have H' := Aside0.mk H
            clear H
            go_wp2
            go_meet
            case rel => exact ⟨_, (decide (a0 ≤ 90)), zz27, H', ⟨by have := HJ1.out; first | omega | exact Nat.le_refl _⟩, ⟨zz1⟩⟩
          · rw [if_neg c6] at H
            have c6b0 : decide (65 ≤ a0) = false := decide_eq_false c6
            clear c6
            (first | rw [c6b0] | (simp only [i64_w, i32_w]; rw [c6b0]) | skip)
            have H' := Aside0.mk H
            clear H
            go_wp2
            go_meet
            case rel => exact ⟨_, (false), zz27, H', ⟨by have := HJ1.out; first | omega | exact Nat.le_refl _⟩, ⟨zz1⟩⟩
        case rest =>
          clear HC5
          try clear p2
          try clear c3
          try clear c3b0
          try clear c4
          try clear c6
          try clear c6b0
          try clear p2
          obtain ⟨kq, x10_4, rfl, HA, HJ4, HB⟩ := hcut
          cases kq with
          | zero => exact absurd HA.out (by simp [lex_kind.j1])
          | succ kj4 =>
            have H := HA.out
            clear HA
            simp only [lex_kind.j1] at H
            by_cases c7 : x10_4 = true
            · subst c7
              have H1 : (some 3) = some r := by rw [if_pos rfl] at H; exact H
              clear H
              have H := H1
              clear H1
              obtain rfl := Option.some.inj H
              go_wp2
              go_ret
              exact ⟨zz26, zz1⟩
            · replace c7 := Bool.eq_false_iff.mpr c7
              subst c7
              have H1 : (if a0 ≥ 48 then (lex_kind.j2 kj4 a0 (decide (a0 ≤ 57))) else (lex_kind.j2 kj4 a0 false)) = some r := by rw [if_neg (show ¬ (false = true) by decide)] at H; exact H
              clear H
              have H := H1
              clear H1
              have HC8 := Aside0.mk H
              clear H
              go_upto_region 3 with (fail)
              go_cut [17] (fun v17 wc => ∃ (kq : Nat) (x17_7 : Bool), v17 = .bool x17_7 ∧ Aside0 (lex_kind.j2 kq a0 x17_7 = some r) ∧ Aside0 (kq ≤ kj4) ∧ Aside0 (Below w.heap.size w wc))
              case first =>
                have H := HC8.out
                clear HC8
                by_cases c9 : a0 ≥ 48
                · rw [if_pos c9] at H
                  have c9b0 : decide (48 ≤ a0) = true := decide_eq_true c9
                  clear c9
                  (first | rw [c9b0] | (simp only [i64_w, i32_w]; rw [c9b0]) | skip)
                  have H' := Aside0.mk H
                  clear H
                  go_wp2
                  go_meet
                  case rel => exact ⟨_, (decide (a0 ≤ 57)), zz27, H', ⟨by have := HJ1.out; have := HJ4.out; first | omega | exact Nat.le_refl _⟩, ⟨zz1⟩⟩
                · rw [if_neg c9] at H
                  have c9b0 : decide (48 ≤ a0) = false := decide_eq_false c9
                  clear c9
                  (first | rw [c9b0] | (simp only [i64_w, i32_w]; rw [c9b0]) | skip)
                  have H' := Aside0.mk H
                  clear H
                  go_wp2
                  go_meet
                  case rel => exact ⟨_, (false), zz27, H', ⟨by have := HJ1.out; have := HJ4.out; first | omega | exact Nat.le_refl _⟩, ⟨zz1⟩⟩
              case rest =>
                clear HC8
                try clear p2
                try clear c3
                try clear c3b0
                try clear c4
                try clear c6
                try clear c6b0
                try clear c7
                try clear c9
                try clear c9b0
                try clear p2
                obtain ⟨kq, x17_7, rfl, HA, HJ7, HB⟩ := hcut
                cases kq with
                | zero => exact absurd HA.out (by simp [lex_kind.j2])
                | succ kj7 =>
                  have H := HA.out
                  clear HA
                  simp only [lex_kind.j2] at H
                  by_cases c10 : x17_7 = true
                  · subst c10
                    have H1 : (some 2) = some r := by rw [if_pos rfl] at H; exact H
                    clear H
                    have H := H1
                    clear H1
                    obtain rfl := Option.some.inj H
                    go_wp2
                    go_ret
                    exact ⟨zz26, zz1⟩
                  · replace c10 := Bool.eq_false_iff.mpr c10
                    subst c10
                    have H1 : (if a0 = 32 then (some 1) else (if a0 = 34 then (some 4) else ((strings_IndexByte.f (⟨#[43, 45, 42, 47, 37, 94, 38, 61, 60, 62, 40, 41, 44, 58]⟩ : ByteArray) a0).bind fun t101 => (if t101 ≥ 0 then (some 5) else (some 0))))) = some r := by rw [if_neg (show ¬ (false = true) by decide)] at H; exact H
                    clear H
                    have H := H1
                    clear H1
                    by_cases c11 : a0 = 32
                    · rw [if_pos c11] at H
                      have c11b0 : (a0 == 32) = true := beq_iff_eq.mpr c11
                      have c11b1 : (a0 != 32) = false := bne_eq_false_iff_eq.mpr c11
                      clear c11
                      obtain rfl := Option.some.inj H
                      go_wp2
                      go_ret
                      exact ⟨zz26, zz1⟩
                    · rw [if_neg c11] at H
                      have c11b0 : (a0 == 32) = false := beq_eq_false_iff_ne.mpr c11
                      have c11b1 : (a0 != 32) = true := bne_iff_ne.mpr c11
                      by_cases c12 : a0 = 34
                      · rw [if_pos c12] at H
                        have c12b0 : (a0 == 34) = true := beq_iff_eq.mpr c12
                        have c12b1 : (a0 != 34) = false := bne_eq_false_iff_eq.mpr c12
                        clear c12
                        obtain rfl := Option.some.inj H
                        go_wp2
                        go_ret
                        exact ⟨zz26, zz1⟩
                      · rw [if_neg c12] at H
                        have c12b0 : (a0 == 34) = false := beq_eq_false_iff_ne.mpr c12
                        have c12b1 : (a0 != 34) = true := bne_iff_ne.mpr c12
                        replace H := Option.bind_eq_some_iff.mp H
                        obtain ⟨t101, A130, H⟩ := H
                        replace H : (if t101 ≥ 0 then (some 5) else (some 0)) = some r := H
                        have A13 := Aside0.mk A130
                        clear A130
                        by_cases c14 : t101 ≥ 0
                        · rw [if_pos c14] at H
                          have c14b0 : decide (0 ≤ t101) = true := decide_eq_true c14
                          clear c14
                          obtain rfl := Option.some.inj H
                          go_wp2_with (first | ((with_reducible refine gate_callee (f := 85) rfl ?_); refine goesL_ (some 32) rfl rfl Tryz.func85 (by kernel_rfl) rfl #[.string (⟨#[43, 45, 42, 47, 37, 94, 38, 61, 60, 62, 40, 41, 44, 58]⟩ : ByteArray), .int .u8 a0] rfl zz25 ?_; (with_reducible refine (strings_IndexByte.calls (⟨#[43, 45, 42, 47, 37, 94, 38, 61, 60, 62, 40, 41, 44, 58]⟩ : ByteArray) a0 t101 _ A13.out).mono ?_); rintro e w15 ⟨rfl, hb⟩; refine ⟨_, rfl, ?_⟩; have n0_ := Aside0.mk (below_step zz1 hb); clear HB; have HB := n0_; clear n0_; (try clear hb); (try clear hb2); (try clear hk); (try clear hi)))
                          go_ret
                          exact ⟨zz26, zz1⟩
                        · rw [if_neg c14] at H
                          have c14b0 : decide (0 ≤ t101) = false := decide_eq_false c14
                          clear c14
                          obtain rfl := Option.some.inj H
                          go_wp2_with (first | ((with_reducible refine gate_callee (f := 85) rfl ?_); refine goesL_ (some 32) rfl rfl Tryz.func85 (by kernel_rfl) rfl #[.string (⟨#[43, 45, 42, 47, 37, 94, 38, 61, 60, 62, 40, 41, 44, 58]⟩ : ByteArray), .int .u8 a0] rfl zz25 ?_; (with_reducible refine (strings_IndexByte.calls (⟨#[43, 45, 42, 47, 37, 94, 38, 61, 60, 62, 40, 41, 44, 58]⟩ : ByteArray) a0 t101 _ A13.out).mono ?_); rintro e w16 ⟨rfl, hb⟩; refine ⟨_, rfl, ?_⟩; have n0_ := Aside0.mk (below_step zz1 hb); clear HB; have HB := n0_; clear n0_; (try clear hb); (try clear hb2); (try clear hk); (try clear hi)))
                          go_ret
                          exact ⟨zz26, zz1⟩
end Go.Proofs.YtnomfbmebafolaaGreatDoor.P

namespace Go.Proofs.YtnomfbmebafolaaGreatDoor.P
open Go.RowKit Go.Proofs.YtnomfbmebafolaaGreatDoorW.PrintWords Go.Proofs.YtnomfbmebafolaaGreatDoorW.PrintLast Go.Proofs.YtnomfbmebafolaaGreatDoorW.PrintMore
set_option linter.unusedVariables false
set_option linter.unusedSimpArgs false
abbrev bX := Tryz.Builder_Extra_169
set_option maxHeartbeats 1000000 in
set_option maxRecDepth 100000 in
theorem copy_used (b : Nat) (w : World) (h0 : w.cell? ⟨b, 0, none⟩ = some (.pointer (some ⟨b, 0, none⟩))) :
    Calls Tryz.prog 46 #[.pointer (some ⟨b, 0, none⟩)] w fun e w' => e = .returned (.tuple #[]) ∧ w' = w := by
  obtain ⟨j, hj, _⟩ := Option.map_eq_some_iff.1 bX.sizeBuilder
  have u109 := Tryz.underlying48
  have u107 := Tryz.underlying46
  go_enter Tryz.func46, Tryz.ntmps46
  go_wp2
  rw [Lib.run_neq_ptr_same w _ u107 hj]
  go_wp2
  go_end0
  exact ⟨rfl, rfl⟩
set_option maxHeartbeats 1000000 in
set_option maxRecDepth 100000 in
theorem copy_fresh (b : Nat) (w : World) (h0 : w.cell? ⟨b, 0, none⟩ = some (.pointer none)) (hsh : w.shape? b = some (48, 2)) (hfz : w.frozen? ⟨b, 0, none⟩ = false) :
    Calls Tryz.prog 46 #[.pointer (some ⟨b, 0, none⟩)] w fun e w' => e = .returned (.tuple #[]) ∧ w' = w.setCell ⟨b, 0, none⟩ (.pointer (some ⟨b, 0, none⟩)) := by
  obtain ⟨j, hj, hjs⟩ := Option.map_eq_some_iff.1 bX.sizeBuilder
  have u109 := Tryz.underlying48
  have u107 := Tryz.underlying46
  have u134 := Tryz.underlying109
  go_enter Tryz.func46, Tryz.ntmps46
  go_wp2
  rw [Lib.run_to_unsafe w ⟨b, 0, none⟩ u107 u134 hj (by rw [hjs]; decide) hsh (Nat.zero_lt_succ 1)]
  simp only [Result.andThen]
  rw [Oper.upon_value]
  go_wp2
  rw [run_callFunc_extern Tryz.func68 (by kernel_rfl) (by kernel_rfl) (by kernel_rfl) (e := Extern.AbiNoEscape.same) (by kernel_rfl)]
  rw [Lib.run_noEscape]
  simp only [Result.andThen]
  rw [Oper.upon_value]
  go_wp2
  rw [Lib.run_from_unsafe w ⟨b, 0, none⟩ u134 u107 hj hsh bX.liesBuilder]
  simp only [Result.andThen]
  rw [Oper.upon_value]
  go_wp2
  go_end0
  exact ⟨rfl, rfl⟩
theorem copy_any (B b : Nat) (bs : List Value) (w : World) (h : Lib.IsBuilder 48 5 B b bs w) :
    Calls Tryz.prog 46 #[.pointer (some ⟨b, 0, none⟩)] w fun e w' => e = .returned (.tuple #[]) ∧ Lib.BuilderAt 48 5 B b (.pointer (some ⟨b, 0, none⟩)) bs w' ∧ Below B w w' := by
  rcases h with h | h
  · refine (copy_fresh b w h.cell0 h.shape h.frozen0).mono ?_
    rintro e w' ⟨rfl, rfl⟩
    exact ⟨rfl, h.used _, (Below.refl B w).setCell (p := ⟨b, 0, none⟩) h.1 _⟩
  · refine (copy_used b w h.cell0).mono ?_
    rintro e w' ⟨rfl, rfl⟩
    exact ⟨rfl, h, Below.refl B _⟩
set_option maxHeartbeats 2000000 in
set_option maxRecDepth 100000 in
theorem write_byte (B b : Nat) (bs : List Value) (c : Int) (w : World) (h : Lib.IsBuilder 48 5 B b bs w) (hlen : bs.length + 1 ≤ 140737488355328) (hBw : B ≤ w.heap.size) :
    Calls Tryz.prog 108 #[.pointer (some ⟨b, 0, none⟩), .int .u8 c] w fun e w' => e = .returned .nilIface ∧ Lib.IsBuilder 48 5 B b (bs ++ [.int .u8 c]) w' ∧ Below B w w' := by
  obtain ⟨i0, hi, hz0, hz1, hz2⟩ := info_parts bX.infoByte
  have u109 := Tryz.underlying48
  have u107 := Tryz.underlying46
  have u73 := Tryz.underlying35
  have u5 := Tryz.underlying5
  have hcopy := copy_any B b bs w h
  go_enter Tryz.func108, Tryz.ntmps108
  go_wp2_with (go_at_call 46; refine hcopy.mono ?_)
  rintro e w1 ⟨rfl, h1, hb1⟩
  obtain ⟨hB, v, hbk, hown, hne⟩ := h1
  have c0 : w1.cell? ⟨b, 0, none⟩ = some (.pointer (some ⟨b, 0, none⟩)) := by rw [Lib.cell_of_heap hbk]; rfl
  have c1 : w1.cell? ⟨b, 1, none⟩ = some v := by rw [Lib.cell_of_heap hbk]; rfl
  go_wp2_with (at_builtin; refine wpList_append_own _ rfl _ _ 35 rfl B 5 i0 (.int .u8 0) 1 1 u73 hi hz0 hz1 hz2 rfl (by decide) _ _ _ rfl (hown.alloc _) ⟨w1.heap.size, 0, none⟩ 1 1 [.int .u8 c] rfl rfl ?c1 ?c2 ?c3 ?c4 ?c5 ?_)
  case c1 =>
    intro j u hj
    match j, hj with
    | 0, hj => simp at hj; subst hj; simp [Addr.add]
  case c2 => intro u hu; simp at hu; subst hu; rfl
  case c3 => unfold maxLen; omega
  case c4 => omega
  case c5 => have := hb1.size; simp; omega
  intro v' w2 hown' hgrow _
  have hlt : b < w1.heap.size := by
    rcases Nat.lt_or_ge b w1.heap.size with h' | h'
    · exact h'
    · simp [Array.getElem?_eq_none h'] at hbk
  have hb2 : w2.heap[b]? = some (.cells #[.pointer (some ⟨b, 0, none⟩), v] 48 (0, 0)) := by
    rw [hgrow.block b (by simp; omega) (fun e => hne e.symm), Lib.alloc_old w1 _ b hlt]
    exact hbk
  have d0 : w2.cell? ⟨b, 0, none⟩ = some (.pointer (some ⟨b, 0, none⟩)) := by rw [Lib.cell_of_heap hb2]; rfl
  have d1 : w2.cell? ⟨b, 1, none⟩ = some v := by rw [Lib.cell_of_heap hb2]; rfl
  have f1 : w2.frozen? ⟨b, 1, none⟩ = false := Lib.frozen_of_heap hb2 1
  obtain ⟨g, cap, rfl⟩ : ∃ g cap, v' = .slice (some ⟨g, 0, none⟩) (bs.length + 1) cap := by
    rcases hown'.2 with ⟨_, h0⟩ | ⟨g, cap, cur, hv, _⟩
    · omega
    · exact ⟨g, cap, hv⟩
  go_wp2
  go_ret
  refine ⟨rfl, .inr ?_, ?_⟩
  · exact Lib.BuilderAt.put (T := 48) (e := 5) hB hb2 (bs' := bs ++ [.int .u8 c]) (by simpa using hown') bX.neB5
  · exact ((hb1.alloc (by have := hb1.size; omega) _).grown hgrow (by have := hb1.size; simp; omega) (fun k hk => (hown.lt k hk).1)).setCell (p := ⟨b, 1, none⟩) hB _
def bu (s : ByteArray) (i : Nat) : UInt8 := s.data.toList.getD i 0
theorem bt_bu (s : ByteArray) (i : Nat) : bt s (i : Int) = ((bu s i).toNat : Int) := by
  unfold bt bu
  split
  · rename_i h
    have h' : i < s.size := by simpa using h
    have h2 : i < s.data.toList.length := by simpa using h'
    rw [List.getD_eq_getElem?_getD, List.getElem?_eq_getElem h2]
    simp; rfl
  · rename_i h
    have h2 : s.data.toList.length ≤ i := by
      have : ¬ i < s.size := by simpa using h
      simpa using this
    rw [List.getD_eq_getElem?_getD, List.getElem?_eq_none h2]; rfl
def textF (s : ByteArray) : Nat → Nat → List UInt8 → ByteArray × Int
  | 0, _, _ => (⟨#[]⟩, 0)
  | d + 1, i, out => if i < s.size then (if bu s i = 34 then (if i + 1 = s.size ∨ ¬ bu s (i + 1) = 34 then (⟨out.toArray⟩, ((i + 1 : Nat) : Int)) else textF s d (i + 2) (out ++ [34])) else textF s d (i + 1) (out ++ [bu s i])) else (⟨#[]⟩, 0)
def lex_text.f (a0 : ByteArray) : Option (ByteArray × Int) := if a0.size ≤ 140737488351232 then some (textF a0 (a0.size + 1) 1 []) else none
theorem byteCells_add (l : List UInt8) (c : UInt8) : Lib.byteCells (l ++ [c]) = Lib.byteCells l ++ [.int .u8 (c.toNat : Int)] := by simp [Lib.byteCells]
theorem byteCells_len (l : List UInt8) : (Lib.byteCells l).length = l.length := by simp [Lib.byteCells]
theorem fresh_builder (w : World) : Lib.IsBuilder 48 5 w.heap.size w.heap.size (Lib.byteCells []) (w.alloc (.cells #[.pointer none, .slice none 0 0] 48 (0, 0))) :=
  .inl ⟨Nat.le_refl _, _, blk_new w _, ⟨rfl, .inl ⟨rfl, rfl⟩⟩, by simp [Value.ownBlock]⟩
set_option maxHeartbeats 4000000 in
set_option maxRecDepth 100000 in
theorem lex_text.calls (a0 : ByteArray) (r1 : ByteArray) (r2 : Int) (w : World) (h : lex_text.f a0 = some (r1, r2)) :
    Calls Tryz.prog 88 #[.string a0] w fun e w' => e = .returned (.tuple #[.string r1, .int .i64 r2]) ∧ Below w.heap.size w w' := by
  have u109 := Tryz.underlying48
  have u9 := Tryz.underlying9
  unfold lex_text.f at h
  split at h
  case isFalse => cases h
  rename_i hsz
  injection h with h
  have HF := Lib.hid h
  have HB0 := Lib.hid (fresh_builder w)
  have HBl := Lib.hid (below_alloc (Below.refl w.heap.size w) (.cells #[.pointer none, .slice none 0 0] 48 (0, 0)))
  clear h
  go_enter Tryz.func88, Tryz.ntmps88
  go_wp2
  go_loopg [5] (a0.size + 1) (fun gg s5 wr => ∃ (i d : Nat) (out : List UInt8), s5 = .int .i64 i ∧ d ≤ gg ∧ a0.size + 1 ≤ i + d ∧ i ≤ a0.size + 1 ∧ out.length ≤ i ∧ Hid (textF a0 (d + 1) i out = (r1, r2)) ∧ Hid (Lib.IsBuilder 48 5 w.heap.size w.heap.size (Lib.byteCells out) wr) ∧ Hid (Below w.heap.size w wr))
  case atStart => exact ⟨1, a0.size, [], rfl, by omega, by omega, by omega, by simp, HF, HB0, HBl⟩
  case round =>
    obtain ⟨i, d, out, rfl, hd, hid, hi, hout, HT, HR, HB⟩ := hrel
    by_cases hlt : i < a0.size
    · have hltz : (i : Int) < (a0.size : Int) := by omega
      have hi0 : (0 : Int) ≤ (i : Int) := by omega
      have hb : ∀ h : i < a0.size, ((a0[i]'h).toNat : Int) = bt a0 (i : Int) := fun h => bt_at a0 (i : Int) h
      have hbs := HB.out.size
      obtain ⟨d, rfl⟩ : ∃ e, d = e + 1 := ⟨d - 1, by omega⟩
      by_cases hq : bu a0 i = 34
      · have hq0 : (bt a0 (i : Int) == 34) = true := beq_iff_eq.2 (by rw [bt_bu, hq]; rfl)
        have hq1 : (bt a0 (i : Int) != 34) = false := bne_eq_false_iff_eq.2 (by simpa using hq0)
        have hend : (i + 1 = a0.size ∨ ¬ bu a0 (i + 1) = 34) → (⟨out.toArray⟩ : ByteArray) = r1 ∧ ((i : Int) + 1) = r2 := by
          intro hor
          have := HT.out
          rw [textF, if_pos hlt, if_pos hq, if_pos hor] at this
          injection this with e1 e2
          exact ⟨e1, by rw [← e2]; omega⟩
        have hstr := Tryz.Builder_String_any w.heap.size w.heap.size out wr HR.out hbs
        have HS := Lib.hid hstr
        clear hstr
        by_cases hl1 : i + 1 = a0.size
        · obtain ⟨e1, e2⟩ := hend (.inl hl1)
          subst e1 e2
          have hl2 : ((i : Int) + 1 == (a0.size : Int)) = true := beq_iff_eq.2 (by omega)
          clear hend hq
          go_wp2_with (go_at_call 13; refine HS.out.mono ?_; rintro e w2 ⟨rfl, hb2⟩)
          go_ret2
          exact ⟨rfl, HB.out.trans hb2⟩
        · have hl2 : ((i : Int) + 1 == (a0.size : Int)) = false := beq_eq_false_iff_ne.2 (by omega)
          have hl3 : i + 1 < a0.size := by omega
          have hbn : ∀ h : i + 1 < a0.size, ((a0[i + 1]'h).toNat : Int) = bt a0 ((i : Int) + 1) := fun h => bt_at a0 ((i : Int) + 1) (by omega)
          have hbb : bt a0 ((i : Int) + 1) = ((bu a0 (i + 1)).toNat : Int) := bt_bu a0 (i + 1)
          by_cases hq2 : bu a0 (i + 1) = 34
          · have hz0 : (bt a0 ((i : Int) + 1) != 34) = false := bne_eq_false_iff_eq.2 (by rw [hbb, hq2]; rfl)
            have hT : textF a0 (d + 1) (i + 2) (out ++ [34]) = (r1, r2) := by
              have := HT.out
              rw [textF, if_pos hlt, if_pos hq, if_neg (by rintro (h | h); exact hl1 h; exact h hq2)] at this
              exact this
            have HT2 := Lib.hid hT
            have hcw := write_byte w.heap.size w.heap.size (Lib.byteCells out) 34 wr HR.out (by rw [byteCells_len]; omega) hbs
            rw [show Value.int .u8 34 = Value.int .u8 (((34 : UInt8).toNat : Nat) : Int) from rfl, ← byteCells_add] at hcw
            have HW := Lib.hid hcw
            clear hT hcw hq hend hq2 hbb HS
            go_wp2_with (go_at_call 108; refine HW.out.mono ?_; rintro e w2 ⟨rfl, hw2, hb2⟩; have HR2 := Lib.hid hw2; have HB2 := Lib.hid (HB.out.trans hb2); clear hw2 hb2)
            go_roundg d
            case measure => omega
            case rel => exact ⟨i + 2, d, out ++ [34], by go_num, by omega, by omega, by omega, by simp; omega, HT2, HR2, HB2⟩
          · obtain ⟨e1, e2⟩ := hend (.inr hq2)
            subst e1 e2
            have hz0 : (bt a0 ((i : Int) + 1) != 34) = true := bne_iff_ne.2 (by rw [hbb]; intro e; exact hq2 (UInt8.toNat_inj.1 (show (bu a0 (i + 1)).toNat = 34 by omega)))
            clear hend hq hq2 hbb
            go_wp2_with (go_at_call 13; refine HS.out.mono ?_; rintro e w2 ⟨rfl, hb2⟩)
            go_ret2
            exact ⟨rfl, HB.out.trans hb2⟩
      · have hq0 : (bt a0 (i : Int) == 34) = false := beq_eq_false_iff_ne.2 (by rw [bt_bu]; intro e; exact hq (UInt8.toNat_inj.1 (show (bu a0 i).toNat = 34 by omega)))
        have hq1 : (bt a0 (i : Int) != 34) = true := bne_iff_ne.2 (by simpa using hq0)
        have hT : textF a0 (d + 1) (i + 1) (out ++ [bu a0 i]) = (r1, r2) := by
          have := HT.out
          rw [textF, if_pos hlt, if_neg hq] at this
          exact this
        have HT2 := Lib.hid hT
        have hcw := write_byte w.heap.size w.heap.size (Lib.byteCells out) (bt a0 (i : Int)) wr HR.out (by rw [byteCells_len]; omega) hbs
        rw [bt_bu, ← byteCells_add, ← bt_bu] at hcw
        have HW := Lib.hid hcw
        clear hT hcw hq
        go_wp2_with (go_at_call 108; refine HW.out.mono ?_; rintro e w2 ⟨rfl, hw2, hb2⟩; have HR2 := Lib.hid hw2; have HB2 := Lib.hid (HB.out.trans hb2); clear hw2 hb2)
        go_roundg d
        case measure => omega
        case rel => exact ⟨i + 1, d, out ++ [bu a0 i], by go_num, by omega, by omega, by omega, by simp; omega, HT2, HR2, HB2⟩
    · have hltz : ¬ (i : Int) < (a0.size : Int) := by omega
      have hR := HT.out
      rw [textF, if_neg hlt] at hR
      injection hR with e1 e2
      subst e1 e2
      go_wp2
      go_ret2
      exact ⟨rfl, HB.out⟩
end Go.Proofs.YtnomfbmebafolaaGreatDoor.P

namespace Go.Proofs.YtnomfbmebafolaaGreatDoor.P
open Go.RowKit Go.Proofs.YtnomfbmebafolaaGreatDoorW.PrintWords Go.Proofs.YtnomfbmebafolaaGreatDoorW.PrintLast Go.Proofs.YtnomfbmebafolaaGreatDoorW.PrintMore
set_option linter.unusedVariables false
set_option linter.unusedSimpArgs false
def upC (c : UInt8) : UInt8 := if 97 ≤ c.toNat ∧ c.toNat ≤ 122 then c - 32 else c
def upL (l : List UInt8) : List UInt8 := l.map upC
def upS (s : ByteArray) : ByteArray := ⟨(upL s.data.toList).toArray⟩
theorem upC_no {c : UInt8} (h : ¬ (97 ≤ c.toNat ∧ c.toNat ≤ 122)) : upC c = c := if_neg h
theorem upC_yes {c : UInt8} (h : 97 ≤ c.toNat ∧ c.toNat ≤ 122) : (upC c).toNat = c.toNat - 32 := by
  unfold upC; rw [if_pos h, UInt8.toNat_sub_of_le]; rfl
  rw [UInt8.le_iff_toNat_le]; show 32 ≤ c.toNat; omega
def RowB (w : World) (e : TypeId) (g N : Nat) (l : List UInt8) : Prop :=
  ∃ cs : Array Value, w.heap[g]? = some (.cells cs e (N, N + 1)) ∧ cs.size = N ∧ l.length ≤ N ∧ ∀ (j : Nat) (x : UInt8), l[j]? = some x → cs[j]? = some (.int .u8 (x.toNat : Int))
theorem RowB.start (w : World) (e : TypeId) (s : ByteArray) : RowB (Lib.bytesWorld w e s) e w.heap.size (Lib.bytesCells w e s).size s.data.toList := by
  refine ⟨_, Lib.bytesWorld_at_new w e s, rfl, by simp [Lib.bytesCells], fun j x hx => ?_⟩
  have hj : j < s.data.size := by
    rcases Nat.lt_or_ge j s.data.size with h | h
    · exact h
    · rw [List.getElem?_eq_none (by simpa using h)] at hx; cases hx
  have hx' : s.data[j] = x := by
    rw [List.getElem?_eq_getElem (by simpa using hj)] at hx
    injection hx
  have hj' : j < s.size := hj
  simp [Lib.bytesCells, Array.getElem?_append, hj, hj', hx']
theorem RowB.cell {w : World} {e : TypeId} {g N : Nat} {l : List UInt8} (h : RowB w e g N l) {j : Nat} {x : UInt8} (hx : l[j]? = some x) : w.cell? ⟨g, j, none⟩ = some (.int .u8 (x.toNat : Int)) := by
  obtain ⟨cs, h1, h2, h3, h4⟩ := h
  simp [World.cell?, h1, h4 j x hx]
theorem RowB.frozen {w : World} {e : TypeId} {g N : Nat} {l : List UInt8} (h : RowB w e g N l) {j : Nat} (hj : j < l.length) : w.frozen? ⟨g, j, none⟩ = false := by
  obtain ⟨cs, h1, h2, h3, h4⟩ := h
  simp [World.frozen?, h1]; omega
theorem RowB.put {w : World} {e : TypeId} {g N : Nat} {l : List UInt8} (h : RowB w e g N l) (j : Nat) (y : UInt8) : RowB (w.setCell ⟨g, j, none⟩ (.int .u8 (y.toNat : Int))) e g N (l.set j y) := by
  obtain ⟨cs, h1, h2, h3, h4⟩ := h
  refine ⟨cs.setIfInBounds j (.int .u8 (y.toNat : Int)), ?_, by simpa using h2, by simpa using h3, fun i x hx => ?_⟩
  · have hg : g < w.heap.size := (Array.getElem?_eq_some_iff.1 h1).1
    have := (Array.getElem?_eq_some_iff.1 h1).2
    simp [World.setCell, Array.getElem?_modify, hg, this, Array.getElem_modify_self]
  · rw [List.getElem?_set] at hx
    rw [Array.getElem?_setIfInBounds]
    split at hx
    · rename_i hji; subst hji
      split at hx
      · injection hx with hx; subst hx
        rw [if_pos rfl, if_pos (by omega)]
      · cases hx
    · rename_i hji
      rw [if_neg hji]; exact h4 i x hx
theorem RowB.string {w : World} {e : TypeId} {g N : Nat} {l : List UInt8} (h : RowB w e g N l) (P : Program) (src dst : TypeId) (cap : Nat) (hs : P.underlying src = some (.slice e)) (he : P.underlying e = some (.int .u8)) (hd : P.underlying dst = some .string) :
    (convert src dst (.slice (some ⟨g, 0, none⟩) l.length cap)).run P w = .ok (.string ⟨l.toArray⟩) w := by
  have h1 := run_convert_bytes_arg (P := P) w src e hs he g 0 l.length cap (l.map fun x => (x.toNat : Int)) (by simp) (fun i hi => by
    rw [Nat.zero_add, h.cell (List.getElem?_eq_getElem hi)]
    simp [List.getD, List.getElem?_eq_getElem hi]) dst hd
  rw [h1]
  have : strOfNums (l.map fun x => (x.toNat : Int)) = ⟨l.toArray⟩ := by
    unfold strOfNums
    congr 1
    simp [Function.comp_def]
  rw [this]
theorem up_mid {l : List UInt8} {i : Nat} (hi : i < l.length) : (upL (l.take i) ++ l.drop i)[i]? = some l[i] := by
  unfold upL
  rw [List.getElem?_append_right (by simp; omega)]
  simp [Nat.min_eq_left (Nat.le_of_lt hi)]
theorem up_len (l : List UInt8) {i : Nat} (hi : i ≤ l.length) : (upL (l.take i) ++ l.drop i).length = l.length := by unfold upL; simp; omega
theorem up_next {l : List UInt8} {i : Nat} (hi : i < l.length) : (upL (l.take i) ++ l.drop i).set i (upC l[i]) = upL (l.take (i + 1)) ++ l.drop (i + 1) := by
  unfold upL
  rw [List.set_append_right _ _ (by simp; omega), List.take_succ_eq_append_getElem hi, List.map_append, List.append_assoc]
  congr 1
  rw [List.length_map, List.length_take, Nat.min_eq_left (by omega), Nat.sub_self, List.drop_eq_getElem_cons hi]
  rfl
theorem up_same {l : List UInt8} {i : Nat} (hi : i < l.length) (h : upC l[i] = l[i]) : upL (l.take i) ++ l.drop i = upL (l.take (i + 1)) ++ l.drop (i + 1) := by
  rw [← up_next hi, h]
  conv => rhs; rw [show l[i] = (upL (l.take i) ++ l.drop i)[i]'(by rw [up_len l (by omega)]; exact hi) from by
    have := up_mid hi
    rw [List.getElem?_eq_getElem (by rw [up_len l (by omega)]; exact hi)] at this
    injection this with this; exact this.symm]
  rw [List.set_getElem_self]
def lex_Upper.f (a0 : ByteArray) : Option ByteArray := if a0.size ≤ 140737488351232 then some (upS a0) else none
set_option maxHeartbeats 4000000 in
set_option maxRecDepth 100000 in
theorem lex_Upper.calls (a0 : ByteArray) (r : ByteArray) (w : World) (h : lex_Upper.f a0 = some r) :
    Calls Tryz.prog 90 #[.string a0] w fun e w' => e = .returned (.string r) ∧ Below w.heap.size w w' := by
  have hu9 := Tryz.underlying9
  have hu73 := Tryz.underlying35
  have hu5 := Tryz.underlying5
  unfold lex_Upper.f at h
  split at h
  case isFalse => cases h
  rename_i hsz
  injection h with h
  subst h
  have hl : a0.data.toList.length = a0.size := Array.length_toList
  have hcv := fun w => Lib.run_convert_string_bytes (P := Tryz.prog) w 9 35 5 a0 hu9 hu73 hu5
  go_enter Tryz.func90, Tryz.ntmps90
  have HR0 := Lib.hid (RowB.start w 5 a0)
  have HB0 := Lib.hid (bytes_below (Below.refl w.heap.size w) (Nat.le_refl _) 5 a0)
  have hgl := hl
  go_wp2
  go_loopg [10] a0.size (fun gg s10 wr => ∃ i : Nat, s10 = .int .i64 i ∧ i ≤ a0.size ∧ a0.size - i ≤ gg ∧ Hid (RowB wr 5 w.heap.size (Lib.bytesCells w 5 a0).size (upL (a0.data.toList.take i) ++ a0.data.toList.drop i)) ∧ Hid (Below w.heap.size w wr))
  case atStart => exact ⟨0, rfl, by omega, by omega, HR0, HB0⟩
  case round =>
    obtain ⟨i, rfl, hi, hgg, HR, HB⟩ := hrel
    by_cases hlt : i < a0.size
    · have hlt' : i < a0.data.toList.length := by omega
      have hltz : (i : Int) < (a0.size : Int) := by omega
      have hi0 : (0 : Int) ≤ (i : Int) := by omega
      have hc0 := HR.out.cell (up_mid hlt')
      have hz0 := HR.out.frozen (j := i) (by rw [up_len _ (by omega)]; exact hlt')
      by_cases hu : 97 ≤ (a0.data.toList[i]).toNat ∧ (a0.data.toList[i]).toNat ≤ 122
      · have hp := HR.out.put i (upC a0.data.toList[i])
        rw [up_next hlt', upC_yes hu] at hp
        generalize hx : (a0.data.toList[i]).toNat = x at hc0 hu hp
        have hg1 : (x : Int) ≥ 97 := by omega
        have hg2 : (x : Int) ≤ 122 := by omega
        rw [show ((x - 32 : Nat) : Int) = (x : Int) - 97 + 65 by omega] at hp
        have HP := Lib.hid hp
        clear hp hx
        go_wp2
        go_roundg (a0.size - (i + 1))
        case measure => omega
        case rel => exact ⟨i + 1, by go_num, by omega, by omega, HP, Lib.hid (below_set HB.out (Nat.le_refl _))⟩
      · have hs := up_same hlt' (upC_no hu)
        have HP := HR
        rw [hs] at HP
        generalize hx : (a0.data.toList[i]).toNat = x at hc0 hu
        clear hx hs
        by_cases h97 : 97 ≤ x
        · have hg1 : (x : Int) ≥ 97 := by omega
          have hg2 : ¬ (x : Int) ≤ 122 := by omega
          go_wp2
          go_roundg (a0.size - (i + 1))
          case measure => omega
          case rel => exact ⟨i + 1, by go_num, by omega, by omega, HP, HB⟩
        · have hg1 : ¬ (x : Int) ≥ 97 := by omega
          go_wp2
          go_roundg (a0.size - (i + 1))
          case measure => omega
          case rel => exact ⟨i + 1, by go_num, by omega, by omega, HP, HB⟩
    · have hi' : i = a0.size := by omega
      subst hi'
      have hltz : ¬ ((a0.size : Nat) : Int) < (a0.size : Int) := by omega
      have hs := HR.out.string Tryz.prog 35 9 (grownCap w a0.size 0 5) hu73 hu5 hu9
      rw [up_len _ (by omega), hl, List.take_of_length_le (by omega), List.drop_of_length_le (by omega), List.append_nil] at hs
      go_wp2
      go_ret
      exact ⟨rfl, HB.out⟩
end Go.Proofs.YtnomfbmebafolaaGreatDoor.P

namespace Go.Proofs.YtnomfbmebafolaaGreatDoor.P
open Go.RowKit Go.Proofs.YtnomfbmebafolaaGreatDoorW.PrintWords Go.Proofs.YtnomfbmebafolaaGreatDoorW.PrintLast Go.Proofs.YtnomfbmebafolaaGreatDoorW.PrintMore
attribute [local go_sem] max2_int min2_int max_two min_two max_three min_three max_four min_four   -- for this text's walks alone
set_option linter.unusedVariables false
set_option linter.unusedSimpArgs false
def num_Dec.f (a0 : Int) : Option (ByteArray) := (strconv_FormatInt.f a0 10).bind fun t188 => (some t188)
set_option maxHeartbeats 8000000 in
set_option maxRecDepth 100000 in
theorem num_Dec.calls (a0 : Int) (r : ByteArray) (w : World) (hG : G1 w) (h : num_Dec.f a0 = some r) :
    Calls Tryz.prog 36 #[.int .i64 a0] w fun e w' => e = .returned (.string r) ∧ Below w.heap.size w w' := by
  have HB := Aside0.mk (Below.refl w.heap.size w)
  have H : ((strconv_FormatInt.f a0 10).bind fun t188 => (some t188)) = some r := h
  clear h
  replace H := Option.bind_eq_some_iff.mp H
  obtain ⟨t188, A20, H⟩ := H
  replace H : (some t188) = some r := H
  have A2 := Aside0.mk A20
  clear A20
  obtain rfl := Option.some.inj H
  go_enter Tryz.func36, Tryz.ntmps36
  go_wp2_with (first | ((with_reducible refine gate_callee (f := 58) rfl ?_); refine goesL_ (some 4) rfl rfl Tryz.func58 (by kernel_rfl) rfl #[.int .i64 a0, .int .i64 10] rfl zz25 ?_; (with_reducible refine (strconv_FormatInt.calls a0 10 t188 _ ?side1 A2.out).mono ?_); (case side1 => exact gl_1_1 zz1 hG); rintro e w3 ⟨rfl, hb⟩; refine ⟨_, rfl, ?_⟩; have n0_ := Aside0.mk (below_step zz1 hb); clear HB; have HB := n0_; clear n0_; (try clear hb); (try clear hb2); (try clear hk); (try clear hi)))
  go_ret
  exact ⟨zz26, zz1⟩
end Go.Proofs.YtnomfbmebafolaaGreatDoor.P

namespace Go.Proofs.YtnomfbmebafolaaGreatDoor.P
open Go.RowKit Go.Proofs.YtnomfbmebafolaaGreatDoorW.PrintWords Go.Proofs.YtnomfbmebafolaaGreatDoorW.PrintLast Go.Proofs.YtnomfbmebafolaaGreatDoorW.PrintMore
set_option linter.unusedVariables false
set_option linter.unusedSimpArgs false
theorem num_Dec_f (n : Int) (h0 : -9223372036854775808 ≤ n) (h1 : n ≤ 9223372036854775807) : num_Dec.f n = some ⟨(M.itoaF n).toArray⟩ := by
  unfold num_Dec.f strconv_FormatInt.f
  rw [if_pos ⟨rfl, h0, h1⟩]; rfl
def num_Parse.f (a0 : ByteArray) : Option (Int × Bool) := if a0.size ≤ 281474976710656 then some (M.numParse a0.data.toList) else none
theorem bytesWorld_two {w w' : World} {e : TypeId} {s : ByteArray} (h : w' = w ∨ ∃ t, w' = Lib.bytesWorld w e t) : Below w.heap.size w w' := by
  rcases h with rfl | ⟨t, rfl⟩
  · exact Below.refl _ _
  · exact bytes_below (Below.refl _ _) (Nat.le_refl _) _ _
set_option maxHeartbeats 1000000 in
theorem num_Parse.calls (a0 : ByteArray) (r1 : Int) (r2 : Bool) (w : World) (hG : G2 w) (h : num_Parse.f a0 = some (r1, r2)) :
    Calls Tryz.prog 39 #[.string a0] w fun e w' => e = .returned (.tuple #[.int .i64 r1, .bool r2]) ∧ Below w.heap.size w w' := by
  unfold num_Parse.f at h
  split at h
  · rename_i hs
    have h := Option.some.inj h
    obtain ⟨hg1, ⟨t2, p2, h2⟩, t3, p3, h3⟩ := hG
    cases hp : Lib.parseIntB 64 a0.data.toList
    · rename_i v
      have hb := Lib.parseIntB_bounds hp
      have e63 : ((2 ^ (64 - 1) : Nat) : Int) = 9223372036854775808 := by decide
      rw [e63] at hb
      have C := Tryz.strconv_ParseInt_10_at64_ok a0 (by omega) v hp w
      have HC := Lib.hid C
      have D := num_Dec_f v (by omega) (by omega)
      have HD := Lib.hid D
      have hg1' := Lib.hid hg1
      by_cases hi : M.itoaF v = a0.data.toList
      · have hr : M.numParse a0.data.toList = (v, true) := by unfold M.numParse; rw [hp]; simp only []; rw [if_pos hi]
        rw [hr] at h
        simp only [Prod.mk.injEq] at h
        obtain ⟨rfl, rfl⟩ := h
        have hq : (!(M.itoaF v == a0.toList)) = false := by rw [ByteArray.toList_eq]; simp [hi]
        clear C h2 h3 hg1 hp hr D hi hb e63
        go_enter Tryz.func39, Tryz.ntmps39
        go_wp2_with (first | (go_at_call 59; refine HC.out.mono ?_; rintro e w' ⟨rfl, hw⟩; have hb := bytesWorld_two (s := a0) hw; clear hw) | (go_at_call 36; refine (num_Dec.calls v _ _ (gl_1_1 hb hg1'.out) HD.out).mono ?_; rintro e w' ⟨rfl, hb2⟩))
        go_ret2
        exact ⟨rfl, hb.trans (hb2.mono hb.size)⟩
      · have hr : M.numParse a0.data.toList = (0, false) := by unfold M.numParse; rw [hp]; simp only []; rw [if_neg hi]
        rw [hr] at h
        simp only [Prod.mk.injEq] at h
        obtain ⟨rfl, rfl⟩ := h
        have hq : (!(M.itoaF v == a0.toList)) = true := by rw [ByteArray.toList_eq]; simp [hi]
        clear C h2 h3 hg1 hp hr D hi hb e63
        go_enter Tryz.func39, Tryz.ntmps39
        go_wp2_with (first | (go_at_call 59; refine HC.out.mono ?_; rintro e w' ⟨rfl, hw⟩; have hb := bytesWorld_two (s := a0) hw; clear hw) | (go_at_call 36; refine (num_Dec.calls v _ _ (gl_1_1 hb hg1'.out) HD.out).mono ?_; rintro e w' ⟨rfl, hb2⟩))
        go_ret2
        exact ⟨rfl, hb.trans (hb2.mono hb.size)⟩
    · have hr : M.numParse a0.data.toList = (0, false) := by unfold M.numParse; rw [hp]
      rw [hr] at h
      simp only [Prod.mk.injEq] at h
      obtain ⟨rfl, rfl⟩ := h
      have C : Calls Tryz.prog 59 #[.string a0, .int .i64 10, .int .i64 64] w (fun e w' => ∃ N, e = .returned (.tuple #[.int .i64 0, .iface 178 (.pointer (some ⟨N, 0, none⟩))]) ∧ Below w.heap.size w w') :=
        (Any.strconv_ParseInt_10_at64_syntax_var Tryz.laysC174 a0 hs hp t2 p2 w h2).mono (fun e w' ⟨N, h1, _, _, h4⟩ => ⟨N, h1, h4⟩)
      have HC := Lib.hid C
      clear C h2 h3 hg1 hp hr
      go_enter Tryz.func39, Tryz.ntmps39
      go_wp2_with (first | (go_at_call 59; refine HC.out.mono ?_; rintro e w' ⟨N, rfl, hb⟩))
      go_ret2
      exact ⟨rfl, hb⟩
    · have hr : M.numParse a0.data.toList = (0, false) := by unfold M.numParse; rw [hp]
      rw [hr] at h
      simp only [Prod.mk.injEq] at h
      obtain ⟨rfl, rfl⟩ := h
      have C := Tryz.strconv_ParseInt_10_at64_range_var a0 hs hp t3 p3 w h3
      have HC := Lib.hid C
      clear C h2 h3 hg1 hp hr
      go_enter Tryz.func39, Tryz.ntmps39
      go_wp2_with (first | (go_at_call 59; refine HC.out.mono ?_; rintro e w' ⟨N, rfl, -, -, hb⟩))
      go_ret2
      exact ⟨rfl, hb⟩
  · cases h
theorem dec_one (a : Int) (ha : M.I64 a) : num_Dec.f a = some (bs (M.itoaF a)) := num_Dec_f a ha.1 ha.2
end Go.Proofs.YtnomfbmebafolaaGreatDoor.P

namespace Go.Proofs.YtnomfbmebafolaaGreatDoor.P
open Go.RowKit Go.Proofs.YtnomfbmebafolaaGreatDoorW.PrintWords Go.Proofs.YtnomfbmebafolaaGreatDoorW.PrintLast Go.Proofs.YtnomfbmebafolaaGreatDoorW.PrintMore
attribute [local go_sem] max2_int min2_int max_two min_two max_three min_three max_four min_four   -- for this text's walks alone
set_option linter.unusedVariables false
set_option linter.unusedSimpArgs false
def lex_signs.f (a0 : ByteArray) : Option (Int) := if (a0.size : Int) > 1 then (if 0 ≤ 2 then (if 2 ≤ (a0.size : Int) then (if (a0.extract 0 2).toList = ([60, 62] : List UInt8) then (some 2) else (if (a0.extract 0 2).toList = ([60, 61] : List UInt8) then (some 2) else (if (a0.extract 0 2).toList = ([62, 61] : List UInt8) then (some 2) else (some 1)))) else (none)) else (none)) else (some 1)
set_option maxHeartbeats 8000000 in
set_option maxRecDepth 100000 in
theorem lex_signs.calls (a0 : ByteArray) (r : Int) (w : World) (h : lex_signs.f a0 = some r) :
    Calls Tryz.prog 91 #[.string a0] w fun e w' => e = .returned (.int .i64 r) ∧ Drawn0 w w' := by
  have H : (if (a0.size : Int) > 1 then (if 0 ≤ 2 then (if 2 ≤ (a0.size : Int) then (if (a0.extract 0 2).toList = ([60, 62] : List UInt8) then (some 2) else (if (a0.extract 0 2).toList = ([60, 61] : List UInt8) then (some 2) else (if (a0.extract 0 2).toList = ([62, 61] : List UInt8) then (some 2) else (some 1)))) else (none)) else (none)) else (some 1)) = some r := h
  clear h
  by_cases c2 : (a0.size : Int) > 1
  · rw [if_pos c2] at H
    have c2b0 : decide (1 < (a0.size : Int)) = true := decide_eq_true c2
    have c2b1 : decide (1 < a0.size) = true := decide_eq_true (by omega)
    clear c2
    by_cases c3 : 0 ≤ 2
    · rw [if_pos c3] at H
      have c3b0 := eq_true c3
      have c3b1 : decide (0 ≤ 2) = true := decide_eq_true c3
      clear c3
      by_cases c4 : 2 ≤ (a0.size : Int)
      · rw [if_pos c4] at H
        have c4b0 := eq_true c4
        have c4b1 : decide (2 ≤ (a0.size : Int)) = true := decide_eq_true c4
        clear c4
        by_cases c5 : (a0.extract 0 2).toList = ([60, 62] : List UInt8)
        · rw [if_pos c5] at H
          have c5b0 : ((a0.extract 0 2).toList == ([60, 62] : List UInt8)) = true := beq_iff_eq.mpr c5
          have c5b1 : ((a0.extract 0 2).toList != ([60, 62] : List UInt8)) = false := bne_eq_false_iff_eq.mpr c5
          clear c5
          obtain rfl := Option.some.inj H
          go_enter Tryz.func91, Tryz.ntmps91
          go_wp2
          go_ret
          exact ⟨zz27, by repeat (first | exact Drawn0.refl _ | apply Drawn0.step)⟩
        · rw [if_neg c5] at H
          have c5b0 : ((a0.extract 0 2).toList == ([60, 62] : List UInt8)) = false := beq_eq_false_iff_ne.mpr c5
          have c5b1 : ((a0.extract 0 2).toList != ([60, 62] : List UInt8)) = true := bne_iff_ne.mpr c5
          by_cases c6 : (a0.extract 0 2).toList = ([60, 61] : List UInt8)
          · rw [if_pos c6] at H
            have c6b0 : ((a0.extract 0 2).toList == ([60, 61] : List UInt8)) = true := beq_iff_eq.mpr c6
            have c6b1 : ((a0.extract 0 2).toList != ([60, 61] : List UInt8)) = false := bne_eq_false_iff_eq.mpr c6
            clear c6
            obtain rfl := Option.some.inj H
            go_enter Tryz.func91, Tryz.ntmps91
            go_wp2
            go_ret
            exact ⟨zz27, by repeat (first | exact Drawn0.refl _ | apply Drawn0.step)⟩
          · rw [if_neg c6] at H
            have c6b0 : ((a0.extract 0 2).toList == ([60, 61] : List UInt8)) = false := beq_eq_false_iff_ne.mpr c6
            have c6b1 : ((a0.extract 0 2).toList != ([60, 61] : List UInt8)) = true := bne_iff_ne.mpr c6
            by_cases c7 : (a0.extract 0 2).toList = ([62, 61] : List UInt8)
            · rw [if_pos c7] at H
              have c7b0 : ((a0.extract 0 2).toList == ([62, 61] : List UInt8)) = true := beq_iff_eq.mpr c7
              have c7b1 : ((a0.extract 0 2).toList != ([62, 61] : List UInt8)) = false := bne_eq_false_iff_eq.mpr c7
              clear c7
              obtain rfl := Option.some.inj H
              go_enter Tryz.func91, Tryz.ntmps91
              go_wp2
              go_ret
              exact ⟨zz27, by repeat (first | exact Drawn0.refl _ | apply Drawn0.step)⟩
            · rw [if_neg c7] at H
              have c7b0 : ((a0.extract 0 2).toList == ([62, 61] : List UInt8)) = false := beq_eq_false_iff_ne.mpr c7
              have c7b1 : ((a0.extract 0 2).toList != ([62, 61] : List UInt8)) = true := bne_iff_ne.mpr c7
              obtain rfl := Option.some.inj H
              go_enter Tryz.func91, Tryz.ntmps91
              go_wp2
              go_ret
              exact ⟨zz27, by repeat (first | exact Drawn0.refl _ | apply Drawn0.step)⟩
      · rw [if_neg c4] at H
        exact absurd H (by simp)
    · rw [if_neg c3] at H
      exact absurd H (by simp)
  · rw [if_neg c2] at H
    have c2b0 : decide (1 < (a0.size : Int)) = false := decide_eq_false c2
    have c2b1 : decide (1 < a0.size) = false := decide_eq_false (by omega)
    clear c2
    obtain rfl := Option.some.inj H
    go_enter Tryz.func91, Tryz.ntmps91
    go_wp2
    go_ret
    exact ⟨zz27, by repeat (first | exact Drawn0.refl _ | apply Drawn0.step)⟩
end Go.Proofs.YtnomfbmebafolaaGreatDoor.P

namespace Go.Proofs.YtnomfbmebafolaaGreatDoor.P
open Go.RowKit Go.Proofs.YtnomfbmebafolaaGreatDoorW.PrintWords Go.Proofs.YtnomfbmebafolaaGreatDoorW.PrintLast Go.Proofs.YtnomfbmebafolaaGreatDoorW.PrintMore
set_option linter.unusedVariables false
set_option linter.unusedSimpArgs false
def kindOf (c : Int) : Int := (lex_kind.f 20 c).getD 0
theorem kind_nat : ∀ c : Fin 256, lex_kind.f 20 (c.val : Int) = some (kindOf (c.val : Int)) := by decide +kernel
theorem kind_byte (c : UInt8) : lex_kind.f 20 (c.toNat : Int) = some (kindOf (c.toNat : Int)) := kind_nat ⟨c.toNat, c.toNat_lt⟩
theorem kind_bt (s : ByteArray) (i : Nat) : lex_kind.f 20 (bt s (i : Int)) = some (kindOf (bt s (i : Int))) := by rw [bt_bu]; exact kind_byte _
def PredK (g : Nat) (p : Int → Bool) : Prop :=
  ∀ (W : World) (x : Int), Calls Tryz.prog g #[.int .i64 x] W fun e w' => e = .returned (.bool (p x)) ∧ Below W.heap.size W w'
theorem pred_digit : PredK 87 (fun x => x == 2) := by
  intro W x
  go_enter Tryz.func87, Tryz.ntmps87
  go_wp2
  go_ret
  exact ⟨rfl, Below.refl _ _⟩
theorem pred_word : PredK 89 (fun x => x == 3 || x == 2) := by
  intro W x
  by_cases h3 : x = 3
  · subst h3
    go_enter Tryz.func89, Tryz.ntmps89
    go_wp2
    go_ret
    exact ⟨rfl, Below.refl _ _⟩
  · have h3b : (x == 3) = false := beq_eq_false_iff_ne.2 h3
    simp only [h3b, Bool.false_or]
    go_enter Tryz.func89, Tryz.ntmps89
    go_wp2
    go_ret
    exact ⟨rfl, Below.refl _ _⟩
theorem eg_digit : ∀ args w, (callFunc 87 args).run Tryz.prog w = .ok (.enter 87 args) w := enters_of Tryz.func87 (by kernel_rfl) rfl
theorem eg_word : ∀ args w, (callFunc 89 args).run Tryz.prog w = .ok (.enter 89 args) w := enters_of Tryz.func89 (by kernel_rfl) rfl
def runN (p : Int → Bool) (s : ByteArray) : Nat → Nat → Nat
  | 0, i => i
  | d + 1, i => if i < s.size then (if p (kindOf (bt s (i : Int))) = true then runN p s d (i + 1) else i) else i
theorem runN_le (p : Int → Bool) (s : ByteArray) : ∀ d i, i ≤ s.size → runN p s d i ≤ s.size ∧ i ≤ runN p s d i
  | 0, i, h => ⟨h, Nat.le_refl _⟩
  | d + 1, i, h => by
    unfold runN
    split
    · split
      · have := runN_le p s d (i + 1) (by omega)
        exact ⟨this.1, by omega⟩
      · exact ⟨h, Nat.le_refl _⟩
    · exact ⟨h, Nat.le_refl _⟩
set_option maxHeartbeats 2000000 in
set_option maxRecDepth 100000 in
theorem run_any (g : Nat) (p : Int → Bool) (eg : ∀ args w, (callFunc g args).run Tryz.prog w = .ok (.enter g args) w) (hp : PredK g p) (s : ByteArray) (hs : s.size ≤ 140737488351232) (w : World) :
    Calls Tryz.prog 86 #[.string s, .func (.func g) #[] #[]] w fun e w' => e = .returned (.int .i64 ((runN p s s.size 0 : Nat) : Int)) ∧ Below w.heap.size w w' := by
  have HP := Lib.hid hp
  clear hp
  have HB0 := Lib.hid (Below.refl w.heap.size w)
  generalize hn : runN p s s.size 0 = n
  have HN := Lib.hid hn
  clear hn
  go_enter Tryz.func86, Tryz.ntmps86
  go_wp2
  go_loopg [5] s.size (fun gg s5 wr => ∃ i d : Nat, s5 = .int .i64 i ∧ d ≤ gg ∧ i + d = s.size ∧ Hid (runN p s d i = n) ∧ Hid (Below w.heap.size w wr))
  case atStart => exact ⟨0, s.size, rfl, by omega, by omega, HN, HB0⟩
  case round =>
    obtain ⟨i, d, rfl, hd, hid, HT, HB⟩ := hrel
    by_cases hlt : i < s.size
    · have hltz : (i : Int) < (s.size : Int) := by omega
      have hi0 : (0 : Int) ≤ (i : Int) := by omega
      have hb : ∀ h : i < s.size, ((s[i]'h).toNat : Int) = bt s (i : Int) := fun h => bt_at s (i : Int) h
      obtain ⟨d, rfl⟩ : ∃ e, d = e + 1 := ⟨d - 1, by omega⟩
      have HK := Lib.hid (kind_bt s i)
      cases hq : p (kindOf (bt s (i : Int))) with
      | true =>
        have hT := HT.out
        rw [runN, if_pos hlt, if_pos hq] at hT
        have HT2 := Lib.hid hT
        have hcp : ∀ W : World, Calls Tryz.prog g #[.int .i64 (kindOf (bt s (i : Int)))] W fun e w' => e = .returned (.bool true) ∧ Below W.heap.size W w' := fun W => by have := HP.out W (kindOf (bt s (i : Int))); rw [hq] at this; exact this
        have HC := Lib.hid hcp
        clear hT hcp hq
        go_wp2_with (first | (go_at_call 71; refine (lex_kind.calls 20 _ _ _ HK.out).mono ?_; rintro e w2 ⟨rfl, hb2⟩) | (go_at_fn g; refine (HC.out _).mono ?_; rintro e w3 ⟨rfl, hb3⟩))
        go_roundg d
        case measure => omega
        case rel => exact ⟨i + 1, d, by go_num, by omega, by omega, HT2, Lib.hid ((below_step HB.out hb2).trans (hb3.mono (below_step HB.out hb2).size))⟩
      | false =>
        have hT := HT.out
        rw [runN, if_pos hlt, if_neg (by rw [hq]; decide)] at hT
        subst hT
        have hcp : ∀ W : World, Calls Tryz.prog g #[.int .i64 (kindOf (bt s (i : Int)))] W fun e w' => e = .returned (.bool false) ∧ Below W.heap.size W w' := fun W => by have := HP.out W (kindOf (bt s (i : Int))); rw [hq] at this; exact this
        have HC := Lib.hid hcp
        clear hcp hq HN
        go_wp2_with (first | (go_at_call 71; refine (lex_kind.calls 20 _ _ _ HK.out).mono ?_; rintro e w2 ⟨rfl, hb2⟩) | (go_at_fn g; refine (HC.out _).mono ?_; rintro e w3 ⟨rfl, hb3⟩))
        go_ret
        exact ⟨rfl, below_step (below_step HB.out hb2) hb3⟩
    · have hltz : ¬ (i : Int) < (s.size : Int) := by omega
      have hT := HT.out
      have hd0 : d = 0 := by omega
      subst hd0
      have hT' : i = n := hT
      subst hT'
      clear HN hT
      go_wp2
      go_ret
      exact ⟨rfl, HB.out⟩
def oneNo (k : Int) : Prop := ¬ k = 2 ∧ ¬ k = 4 ∧ ¬ k = 3 ∧ ¬ k = 5
set_option maxHeartbeats 2000000 in
set_option maxRecDepth 100000 in
theorem one_no (s : ByteArray) (h0 : 0 < s.size) (hs : s.size ≤ 140737488351232) (w : World) (hG : G2 w) (c : Int) (hk : kindOf (bt s 0) = c) (hc : oneNo c) :
    Calls Tryz.prog 72 #[.string s] w fun e w' => e = .returned (.tuple #[.agg #[.int .i64 0, .int .i64 0, .string ⟨#[]⟩, .int .i64 0], .int .i64 0]) ∧ Below w.heap.size w w' := by
  have hu50 := Tryz.underlying137
  have hu9 := Tryz.underlying9
  have hz0 : (0 : Int) < (s.size : Int) := by omega
  have hb : ∀ h : 0 < s.size, ((s[0]'h).toNat : Int) = bt s 0 := fun h => bt_at s 0 h
  have HK := Lib.hid (kind_bt s 0)
  rw [show (((0 : Nat) : Int)) = 0 from rfl, hk] at HK
  have HG := Lib.hid hG
  clear hG hk
  have e2 : (c == 2) = false := beq_eq_false_iff_ne.2 hc.1
  have e4 : (c == 4) = false := beq_eq_false_iff_ne.2 hc.2.1
  have e3 : (c == 3) = false := beq_eq_false_iff_ne.2 hc.2.2.1
  have e5 : (c == 5) = false := beq_eq_false_iff_ne.2 hc.2.2.2
  go_enter Tryz.func72, Tryz.ntmps72
  go_wp2_with (first | (go_at_call 71; (with_reducible refine (lex_kind.calls 20 _ _ _ HK.out).mono ?_); rintro e w1 ⟨rfl, hb1⟩; have K1 := Lib.hid (blk_below (blk_new w (.cells #[.int .i64 0, .int .i64 0, .string ⟨#[]⟩, .int .i64 0] 137 (0, 0))) hb1); have HB1 := Lib.hid (below_step (below_alloc (Below.refl w.heap.size w) _) hb1); clear hb1; have c0 : w1.cell? ⟨w.heap.size, 0, none⟩ = some (.int .i64 0) := (blk_cell K1.out 0).trans rfl; have c1 : w1.cell? ⟨w.heap.size, 1, none⟩ = some (.int .i64 0) := (blk_cell K1.out 1).trans rfl; have c2 : w1.cell? ⟨w.heap.size, 2, none⟩ = some (.string ⟨#[]⟩) := (blk_cell K1.out 2).trans rfl; have c3 : w1.cell? ⟨w.heap.size, 3, none⟩ = some (.int .i64 0) := (blk_cell K1.out 3).trans rfl; have z0 := blk_frozen K1.out 0; have z1 := blk_frozen K1.out 1; have z2 := blk_frozen K1.out 2; have z3 := blk_frozen K1.out 3))
  refine bodyPost_ret (results_ct rfl _ _ w.heap.size 137 _ (0, 0) _ rfl (blk_put (blk_put (blk_put (blk_put K1.out 0 _ rfl) 1 _ rfl) 2 _ rfl) 3 _ rfl) Tryz.underlying137 rfl (by kernel_rfl)) rfl ?_
  exact ⟨rfl, below_set (below_set (below_set (below_set HB1.out (Nat.le_refl _)) (Nat.le_refl _)) (Nat.le_refl _)) (Nat.le_refl _)⟩
set_option maxHeartbeats 2000000 in
set_option maxRecDepth 100000 in
theorem one_text (s : ByteArray) (h0 : 0 < s.size) (hs : s.size ≤ 140737488351232) (w : World) (hG : G2 w) (t : ByteArray) (m : Int) (hk : kindOf (bt s 0) = 4) (ht : lex_text.f s = some (t, m)) :
    Calls Tryz.prog 72 #[.string s] w fun e w' => e = .returned (.tuple #[.agg #[.int .i64 2, .int .i64 0, .string t, .int .i64 0], .int .i64 m]) ∧ Below w.heap.size w w' := by
  have hu50 := Tryz.underlying137
  have hu9 := Tryz.underlying9
  have hz0 : (0 : Int) < (s.size : Int) := by omega
  have hb : ∀ h : 0 < s.size, ((s[0]'h).toNat : Int) = bt s 0 := fun h => bt_at s 0 h
  have HK := Lib.hid (kind_bt s 0)
  rw [show (((0 : Nat) : Int)) = 0 from rfl, hk] at HK
  have HG := Lib.hid hG
  clear hG hk
  have HT := Lib.hid ht
  clear ht
  go_enter Tryz.func72, Tryz.ntmps72
  go_wp2_with (first | (go_at_call 71; (with_reducible refine (lex_kind.calls 20 _ _ _ HK.out).mono ?_); rintro e w1 ⟨rfl, hb1⟩; have K1 := Lib.hid (blk_below (blk_new w (.cells #[.int .i64 0, .int .i64 0, .string ⟨#[]⟩, .int .i64 0] 137 (0, 0))) hb1); have HB1 := Lib.hid (below_step (below_alloc (Below.refl w.heap.size w) _) hb1); clear hb1) | (go_at_call 88; (with_reducible refine (lex_text.calls _ _ _ _ HT.out).mono ?_); rintro e w2 ⟨rfl, hb2⟩; have K2 := Lib.hid (blk_below K1.out hb2); have HB2 := Lib.hid (below_step HB1.out hb2); clear hb2; have c0 : w2.cell? ⟨w.heap.size, 0, none⟩ = some (.int .i64 0) := (blk_cell K2.out 0).trans rfl; have c1 : w2.cell? ⟨w.heap.size, 1, none⟩ = some (.int .i64 0) := (blk_cell K2.out 1).trans rfl; have c2 : w2.cell? ⟨w.heap.size, 2, none⟩ = some (.string ⟨#[]⟩) := (blk_cell K2.out 2).trans rfl; have c3 : w2.cell? ⟨w.heap.size, 3, none⟩ = some (.int .i64 0) := (blk_cell K2.out 3).trans rfl; have z0 := blk_frozen K2.out 0; have z1 := blk_frozen K2.out 1; have z2 := blk_frozen K2.out 2; have z3 := blk_frozen K2.out 3))
  refine bodyPost_ret (results_ct rfl _ _ w.heap.size 137 _ (0, 0) _ rfl (blk_put (blk_put (blk_put (blk_put K2.out 0 _ rfl) 1 _ rfl) 2 _ rfl) 3 _ rfl) Tryz.underlying137 rfl (by kernel_rfl)) rfl ?_
  exact ⟨rfl, below_set (below_set (below_set (below_set HB2.out (Nat.le_refl _)) (Nat.le_refl _)) (Nat.le_refl _)) (Nat.le_refl _)⟩
set_option maxHeartbeats 2000000 in
set_option maxRecDepth 100000 in
theorem one_name (s : ByteArray) (h0 : 0 < s.size) (hs : s.size ≤ 140737488351232) (w : World) (hG : G2 w) (n : Nat) (t : ByteArray) (hk : kindOf (bt s 0) = 3) (hr : runN (fun x => x == 3 || x == 2) s s.size 0 = n) (hn : n ≤ s.size) (ht : lex_Upper.f (s.extract 0 n) = some t) :
    Calls Tryz.prog 72 #[.string s] w fun e w' => e = .returned (.tuple #[.agg #[.int .i64 3, .int .i64 0, .string t, .int .i64 0], .int .i64 (n : Int)]) ∧ Below w.heap.size w w' := by
  have hu50 := Tryz.underlying137
  have hu9 := Tryz.underlying9
  have hz0 : (0 : Int) < (s.size : Int) := by omega
  have hb : ∀ h : 0 < s.size, ((s[0]'h).toNat : Int) = bt s 0 := fun h => bt_at s 0 h
  have HK := Lib.hid (kind_bt s 0)
  rw [show (((0 : Nat) : Int)) = 0 from rfl, hk] at HK
  have HG := Lib.hid hG
  clear hG hk
  have HT := Lib.hid ht
  have hR := fun W => run_any 89 (fun x => x == 3 || x == 2) eg_word pred_word s hs W
  rw [hr] at hR
  have HR := Lib.hid hR
  have hn0 : (0 : Int) ≤ (n : Int) := by omega
  have hn1 : (n : Int) ≤ (s.size : Int) := by omega
  clear ht hR hr
  go_enter Tryz.func72, Tryz.ntmps72
  go_wp2_with (first | (go_at_call 71; (with_reducible refine (lex_kind.calls 20 _ _ _ HK.out).mono ?_); rintro e w1 ⟨rfl, hb1⟩; have K1 := Lib.hid (blk_below (blk_new w (.cells #[.int .i64 0, .int .i64 0, .string ⟨#[]⟩, .int .i64 0] 137 (0, 0))) hb1); have HB1 := Lib.hid (below_step (below_alloc (Below.refl w.heap.size w) _) hb1); clear hb1) | (go_at_call 86; (with_reducible refine (HR.out _).mono ?_); rintro e w2 ⟨rfl, hb2⟩; have K2 := Lib.hid (blk_below K1.out hb2); have HB2 := Lib.hid (below_step HB1.out hb2); clear hb2) | (go_at_call 90; (with_reducible refine (lex_Upper.calls _ _ _ HT.out).mono ?_); rintro e w3 ⟨rfl, hb3⟩; have K3 := Lib.hid (blk_below K2.out hb3); have HB3 := Lib.hid (below_step HB2.out hb3); clear hb3; have c0 : w3.cell? ⟨w.heap.size, 0, none⟩ = some (.int .i64 0) := (blk_cell K3.out 0).trans rfl; have c1 : w3.cell? ⟨w.heap.size, 1, none⟩ = some (.int .i64 0) := (blk_cell K3.out 1).trans rfl; have c2 : w3.cell? ⟨w.heap.size, 2, none⟩ = some (.string ⟨#[]⟩) := (blk_cell K3.out 2).trans rfl; have c3 : w3.cell? ⟨w.heap.size, 3, none⟩ = some (.int .i64 0) := (blk_cell K3.out 3).trans rfl; have z0 := blk_frozen K3.out 0; have z1 := blk_frozen K3.out 1; have z2 := blk_frozen K3.out 2; have z3 := blk_frozen K3.out 3))
  refine bodyPost_ret (results_ct rfl _ _ w.heap.size 137 _ (0, 0) _ rfl (blk_put (blk_put (blk_put (blk_put K3.out 0 _ rfl) 1 _ rfl) 2 _ rfl) 3 _ rfl) Tryz.underlying137 rfl (by kernel_rfl)) rfl ?_
  exact ⟨rfl, below_set (below_set (below_set (below_set HB3.out (Nat.le_refl _)) (Nat.le_refl _)) (Nat.le_refl _)) (Nat.le_refl _)⟩
set_option maxHeartbeats 2000000 in
set_option maxRecDepth 100000 in
theorem one_sign (s : ByteArray) (h0 : 0 < s.size) (hs : s.size ≤ 140737488351232) (w : World) (hG : G2 w) (n : Nat) (hk : kindOf (bt s 0) = 5) (hn : n ≤ s.size) (ht : lex_signs.f s = some (n : Int)) :
    Calls Tryz.prog 72 #[.string s] w fun e w' => e = .returned (.tuple #[.agg #[.int .i64 4, .int .i64 0, .string (s.extract 0 n), .int .i64 0], .int .i64 (n : Int)]) ∧ Below w.heap.size w w' := by
  have hu50 := Tryz.underlying137
  have hu9 := Tryz.underlying9
  have hz0 : (0 : Int) < (s.size : Int) := by omega
  have hb : ∀ h : 0 < s.size, ((s[0]'h).toNat : Int) = bt s 0 := fun h => bt_at s 0 h
  have HK := Lib.hid (kind_bt s 0)
  rw [show (((0 : Nat) : Int)) = 0 from rfl, hk] at HK
  have HG := Lib.hid hG
  clear hG hk
  have HT := Lib.hid ht
  have hn0 : (0 : Int) ≤ (n : Int) := by omega
  have hn1 : (n : Int) ≤ (s.size : Int) := by omega
  clear ht
  go_enter Tryz.func72, Tryz.ntmps72
  go_wp2_with (first | (go_at_call 71; (with_reducible refine (lex_kind.calls 20 _ _ _ HK.out).mono ?_); rintro e w1 ⟨rfl, hb1⟩; have K1 := Lib.hid (blk_below (blk_new w (.cells #[.int .i64 0, .int .i64 0, .string ⟨#[]⟩, .int .i64 0] 137 (0, 0))) hb1); have HB1 := Lib.hid (below_step (below_alloc (Below.refl w.heap.size w) _) hb1); clear hb1) | (go_at_call 91; (with_reducible refine (lex_signs.calls _ _ _ HT.out).mono ?_); rintro e w2 ⟨rfl, hd2⟩; have hb2 := hd2.below; clear hd2; have K2 := Lib.hid (blk_below K1.out hb2); have HB2 := Lib.hid (below_step HB1.out hb2); clear hb2; have c0 : w2.cell? ⟨w.heap.size, 0, none⟩ = some (.int .i64 0) := (blk_cell K2.out 0).trans rfl; have c1 : w2.cell? ⟨w.heap.size, 1, none⟩ = some (.int .i64 0) := (blk_cell K2.out 1).trans rfl; have c2 : w2.cell? ⟨w.heap.size, 2, none⟩ = some (.string ⟨#[]⟩) := (blk_cell K2.out 2).trans rfl; have c3 : w2.cell? ⟨w.heap.size, 3, none⟩ = some (.int .i64 0) := (blk_cell K2.out 3).trans rfl; have z0 := blk_frozen K2.out 0; have z1 := blk_frozen K2.out 1; have z2 := blk_frozen K2.out 2; have z3 := blk_frozen K2.out 3))
  refine bodyPost_ret (results_ct rfl _ _ w.heap.size 137 _ (0, 0) _ rfl (blk_put (blk_put (blk_put (blk_put K2.out 0 _ rfl) 1 _ rfl) 2 _ rfl) 3 _ rfl) Tryz.underlying137 rfl (by kernel_rfl)) rfl ?_
  exact ⟨rfl, below_set (below_set (below_set (below_set HB2.out (Nat.le_refl _)) (Nat.le_refl _)) (Nat.le_refl _)) (Nat.le_refl _)⟩
def pI (s : ByteArray) : Int × Bool := match Lib.parseIntB 64 s.data.toList with
  | .ok v => (v, true)
  | _ => (0, false)
theorem parse_ok (s : ByteArray) (v : Int) (hs : s.size ≤ 140737488351232) (h : pI s = (v, true)) (w : World) :
    Calls Tryz.prog 59 #[.string s, .int .i64 10, .int .i64 64] w fun e w' => e = .returned (.tuple #[.int .i64 v, .nilIface]) ∧ Below w.heap.size w w' := by
  unfold pI at h
  cases hp : Lib.parseIntB 64 s.data.toList <;> rw [hp] at h <;> simp at h
  subst h
  exact (Tryz.strconv_ParseInt_10_at64_ok s (by omega) _ hp w).mono fun e w' ⟨he, hw⟩ => ⟨he, bytesWorld_two (s := s) hw⟩
theorem parse_no (s : ByteArray) (hs : s.size ≤ 140737488351232) (h : (pI s).2 = false) (w : World) (hG : G2 w) :
    Calls Tryz.prog 59 #[.string s, .int .i64 10, .int .i64 64] w fun e w' => ∃ n N, e = .returned (.tuple #[.int .i64 n, .iface 178 (.pointer (some ⟨N, 0, none⟩))]) ∧ Below w.heap.size w w' := by
  obtain ⟨hg1, ⟨t2, p2, h2⟩, t3, p3, h3⟩ := hG
  unfold pI at h
  cases hp : Lib.parseIntB 64 s.data.toList
  · rw [hp] at h; simp at h
  · exact (Any.strconv_ParseInt_10_at64_syntax_var Tryz.laysC174 s (by omega) hp t2 p2 w h2).mono fun e w' ⟨N, h1, _, _, h4⟩ => ⟨_, N, h1, h4⟩
  · exact (Tryz.strconv_ParseInt_10_at64_range_var s (by omega) hp t3 p3 w h3).mono fun e w' ⟨N, h1, _, _, h4⟩ => ⟨_, N, h1, h4⟩
set_option maxHeartbeats 2000000 in
set_option maxRecDepth 100000 in
theorem one_int (s : ByteArray) (h0 : 0 < s.size) (hs : s.size ≤ 140737488351232) (w : World) (hG : G2 w) (n : Nat) (v : Int) (hk : kindOf (bt s 0) = 2) (hr : runN (fun x => x == 2) s s.size 0 = n) (hn : n ≤ s.size) (hp : pI (s.extract 0 n) = (v, true)) :
    Calls Tryz.prog 72 #[.string s] w fun e w' => e = .returned (.tuple #[.agg #[.int .i64 1, .int .i64 v, .string ⟨#[]⟩, .int .i64 0], .int .i64 (n : Int)]) ∧ Below w.heap.size w w' := by
  have hu50 := Tryz.underlying137
  have hu9 := Tryz.underlying9
  have hz0 : (0 : Int) < (s.size : Int) := by omega
  have hb : ∀ h : 0 < s.size, ((s[0]'h).toNat : Int) = bt s 0 := fun h => bt_at s 0 h
  have HK := Lib.hid (kind_bt s 0)
  rw [show (((0 : Nat) : Int)) = 0 from rfl, hk] at HK
  have HG := Lib.hid hG
  clear hG hk
  have hR := fun W => run_any 87 (fun x => x == 2) eg_digit pred_digit s hs W
  rw [hr] at hR
  have HR := Lib.hid hR
  have hn0 : (0 : Int) ≤ (n : Int) := by omega
  have hn1 : (n : Int) ≤ (s.size : Int) := by omega
  have hex : (s.extract 0 n).size ≤ 140737488351232 := by rw [ByteArray.size_extract]; omega
  have HP := Lib.hid hp
  clear hp hR hr
  go_enter Tryz.func72, Tryz.ntmps72
  go_wp2_with (first | (go_at_call 71; (with_reducible refine (lex_kind.calls 20 _ _ _ HK.out).mono ?_); rintro e w1 ⟨rfl, hb1⟩; have K1 := Lib.hid (blk_below (blk_new w (.cells #[.int .i64 0, .int .i64 0, .string ⟨#[]⟩, .int .i64 0] 137 (0, 0))) hb1); have HB1 := Lib.hid (below_step (below_alloc (Below.refl w.heap.size w) _) hb1); clear hb1) | (go_at_call 86; (with_reducible refine (HR.out _).mono ?_); rintro e w2 ⟨rfl, hb2⟩; have K2 := Lib.hid (blk_below K1.out hb2); have HB2 := Lib.hid (below_step HB1.out hb2); clear hb2) | (go_at_call 59; (with_reducible refine (parse_ok _ _ hex HP.out _).mono ?_); rintro e w3 ⟨rfl, hb3⟩; have K3 := Lib.hid (blk_below K2.out hb3); have HB3 := Lib.hid (below_step HB2.out hb3); clear hb3; have c0 : w3.cell? ⟨w.heap.size, 0, none⟩ = some (.int .i64 0) := (blk_cell K3.out 0).trans rfl; have c1 : w3.cell? ⟨w.heap.size, 1, none⟩ = some (.int .i64 0) := (blk_cell K3.out 1).trans rfl; have c2 : w3.cell? ⟨w.heap.size, 2, none⟩ = some (.string ⟨#[]⟩) := (blk_cell K3.out 2).trans rfl; have c3 : w3.cell? ⟨w.heap.size, 3, none⟩ = some (.int .i64 0) := (blk_cell K3.out 3).trans rfl; have z0 := blk_frozen K3.out 0; have z1 := blk_frozen K3.out 1; have z2 := blk_frozen K3.out 2; have z3 := blk_frozen K3.out 3))
  refine bodyPost_ret (results_ct rfl _ _ w.heap.size 137 _ (0, 0) _ rfl (blk_put (blk_put (blk_put (blk_put K3.out 0 _ rfl) 1 _ rfl) 2 _ rfl) 3 _ rfl) Tryz.underlying137 rfl (by kernel_rfl)) rfl ?_
  exact ⟨rfl, below_set (below_set (below_set (below_set HB3.out (Nat.le_refl _)) (Nat.le_refl _)) (Nat.le_refl _)) (Nat.le_refl _)⟩
set_option maxHeartbeats 2000000 in
set_option maxRecDepth 100000 in
theorem one_big (s : ByteArray) (h0 : 0 < s.size) (hs : s.size ≤ 140737488351232) (w : World) (hG : G2 w) (n : Nat) (hk : kindOf (bt s 0) = 2) (hr : runN (fun x => x == 2) s s.size 0 = n) (hn : n ≤ s.size) (hp : (pI (s.extract 0 n)).2 = false) :
    Calls Tryz.prog 72 #[.string s] w fun e w' => e = .returned (.tuple #[.agg #[.int .i64 0, .int .i64 0, .string ⟨#[]⟩, .int .i64 0], .int .i64 0]) ∧ Below w.heap.size w w' := by
  have hu50 := Tryz.underlying137
  have hu9 := Tryz.underlying9
  have hz0 : (0 : Int) < (s.size : Int) := by omega
  have hb : ∀ h : 0 < s.size, ((s[0]'h).toNat : Int) = bt s 0 := fun h => bt_at s 0 h
  have HK := Lib.hid (kind_bt s 0)
  rw [show (((0 : Nat) : Int)) = 0 from rfl, hk] at HK
  have HG := Lib.hid hG
  clear hG hk
  have hR := fun W => run_any 87 (fun x => x == 2) eg_digit pred_digit s hs W
  rw [hr] at hR
  have HR := Lib.hid hR
  have hn0 : (0 : Int) ≤ (n : Int) := by omega
  have hn1 : (n : Int) ≤ (s.size : Int) := by omega
  have hex : (s.extract 0 n).size ≤ 140737488351232 := by rw [ByteArray.size_extract]; omega
  have HP := Lib.hid hp
  clear hp hR hr
  go_enter Tryz.func72, Tryz.ntmps72
  go_wp2_with (first | (go_at_call 71; (with_reducible refine (lex_kind.calls 20 _ _ _ HK.out).mono ?_); rintro e w1 ⟨rfl, hb1⟩; have K1 := Lib.hid (blk_below (blk_new w (.cells #[.int .i64 0, .int .i64 0, .string ⟨#[]⟩, .int .i64 0] 137 (0, 0))) hb1); have HB1 := Lib.hid (below_step (below_alloc (Below.refl w.heap.size w) _) hb1); clear hb1) | (go_at_call 86; (with_reducible refine (HR.out _).mono ?_); rintro e w2 ⟨rfl, hb2⟩; have K2 := Lib.hid (blk_below K1.out hb2); have HB2 := Lib.hid (below_step HB1.out hb2); clear hb2) | (go_at_call 59; (with_reducible refine (parse_no _ hex HP.out _ (gl_2_2 HB2.out HG.out)).mono ?_); rintro e w3 ⟨pn, pN, rfl, hb3⟩; have K3 := Lib.hid (blk_below K2.out hb3); have HB3 := Lib.hid (below_step HB2.out hb3); clear hb3; have c0 : w3.cell? ⟨w.heap.size, 0, none⟩ = some (.int .i64 0) := (blk_cell K3.out 0).trans rfl; have c1 : w3.cell? ⟨w.heap.size, 1, none⟩ = some (.int .i64 0) := (blk_cell K3.out 1).trans rfl; have c2 : w3.cell? ⟨w.heap.size, 2, none⟩ = some (.string ⟨#[]⟩) := (blk_cell K3.out 2).trans rfl; have c3 : w3.cell? ⟨w.heap.size, 3, none⟩ = some (.int .i64 0) := (blk_cell K3.out 3).trans rfl; have z0 := blk_frozen K3.out 0; have z1 := blk_frozen K3.out 1; have z2 := blk_frozen K3.out 2; have z3 := blk_frozen K3.out 3))
  refine bodyPost_ret (results_ct rfl _ _ w.heap.size 137 _ (0, 0) _ rfl (blk_put (blk_put (blk_put (blk_put K3.out 0 _ rfl) 1 _ rfl) 2 _ rfl) 3 _ rfl) Tryz.underlying137 rfl (by kernel_rfl)) rfl ?_
  exact ⟨rfl, below_set (below_set (below_set (below_set HB3.out (Nat.le_refl _)) (Nat.le_refl _)) (Nat.le_refl _)) (Nat.le_refl _)⟩
def signsV (s : ByteArray) : Nat := if s.size > 1 then (if (s.extract 0 2).toList = ([60, 62] : List UInt8) then 2 else if (s.extract 0 2).toList = ([60, 61] : List UInt8) then 2 else if (s.extract 0 2).toList = ([62, 61] : List UInt8) then 2 else 1) else 1
theorem signs_eq (s : ByteArray) : lex_signs.f s = some ((signsV s : Nat) : Int) := by
  unfold lex_signs.f signsV
  by_cases h : s.size > 1
  · rw [if_pos (by omega), if_pos (by omega), if_pos (by omega), if_pos h]
    split
    · rfl
    · split
      · rfl
      · split <;> rfl
  · rw [if_neg (by omega), if_neg h]; rfl
theorem signs_le (s : ByteArray) (h : 0 < s.size) : 1 ≤ signsV s ∧ signsV s ≤ s.size := by
  unfold signsV
  split
  · split
    · omega
    · split
      · omega
      · split <;> omega
  · omega
def digP (x : Int) : Bool := x == 2
def wordP (x : Int) : Bool := x == 3 || x == 2
def digN (s : ByteArray) : Nat := runN digP s s.size 0
def wordN (s : ByteArray) : Nat := runN wordP s s.size 0
def oneV (s : ByteArray) : Int × Int × ByteArray × Int × Int :=
  if kindOf (bt s 0) = 2 then (if (pI (s.extract 0 (digN s))).2 = true then (1, (pI (s.extract 0 (digN s))).1, ⟨#[]⟩, 0, ((digN s : Nat) : Int)) else (0, 0, ⟨#[]⟩, 0, 0)) else
  if kindOf (bt s 0) = 4 then (2, 0, (textF s (s.size + 1) 1 []).1, 0, (textF s (s.size + 1) 1 []).2) else
  if kindOf (bt s 0) = 3 then (3, 0, upS (s.extract 0 (wordN s)), 0, ((wordN s : Nat) : Int)) else
  if kindOf (bt s 0) = 5 then (4, 0, s.extract 0 (signsV s), 0, ((signsV s : Nat) : Int)) else (0, 0, ⟨#[]⟩, 0, 0)
def lex_one.f (s : ByteArray) : Option (Int × Int × ByteArray × Int × Int) := if 0 < s.size ∧ s.size ≤ 140737488351232 then some (oneV s) else none
theorem lex_one.calls (s : ByteArray) (r1 r2 : Int) (r3 : ByteArray) (r4 r5 : Int) (w : World) (hG : G2 w) (h : lex_one.f s = some (r1, r2, r3, r4, r5)) :
    Calls Tryz.prog 72 #[.string s] w fun e w' => e = .returned (.tuple #[.agg #[.int .i64 r1, .int .i64 r2, .string r3, .int .i64 r4], .int .i64 r5]) ∧ Below w.heap.size w w' := by
  unfold lex_one.f at h
  split at h
  case isFalse => cases h
  rename_i hs
  injection h with h
  have hd := (runN_le digP s s.size 0 (by omega)).1
  have hw := (runN_le wordP s s.size 0 (by omega)).1
  have hsg := (signs_le s hs.1).2
  unfold oneV at h
  by_cases h2 : kindOf (bt s 0) = 2
  · rw [if_pos h2] at h
    by_cases hp : (pI (s.extract 0 (digN s))).2 = true
    · rw [if_pos hp] at h
      simp only [Prod.mk.injEq] at h
      obtain ⟨rfl, rfl, rfl, rfl, rfl⟩ := h
      exact one_int s hs.1 hs.2 w hG (digN s) (pI (s.extract 0 (digN s))).1 h2 rfl hd (by rw [← hp])
    · rw [if_neg hp] at h
      simp only [Prod.mk.injEq] at h
      obtain ⟨rfl, rfl, rfl, rfl, rfl⟩ := h
      exact one_big s hs.1 hs.2 w hG (digN s) h2 rfl hd (by simpa using hp)
  rw [if_neg h2] at h
  by_cases h4 : kindOf (bt s 0) = 4
  · rw [if_pos h4] at h
    simp only [Prod.mk.injEq] at h
    obtain ⟨rfl, rfl, rfl, rfl, rfl⟩ := h
    exact one_text s hs.1 hs.2 w hG _ _ h4 (by unfold lex_text.f; rw [if_pos hs.2])
  rw [if_neg h4] at h
  by_cases h3 : kindOf (bt s 0) = 3
  · rw [if_pos h3] at h
    simp only [Prod.mk.injEq] at h
    obtain ⟨rfl, rfl, rfl, rfl, rfl⟩ := h
    exact one_name s hs.1 hs.2 w hG (wordN s) _ h3 rfl hw (by unfold lex_Upper.f; rw [if_pos (by rw [ByteArray.size_extract]; omega)])
  rw [if_neg h3] at h
  by_cases h5 : kindOf (bt s 0) = 5
  · rw [if_pos h5] at h
    simp only [Prod.mk.injEq] at h
    obtain ⟨rfl, rfl, rfl, rfl, rfl⟩ := h
    exact one_sign s hs.1 hs.2 w hG (signsV s) h5 hsg (signs_eq s)
  · rw [if_neg h5] at h
    simp only [Prod.mk.injEq] at h
    obtain ⟨rfl, rfl, rfl, rfl, rfl⟩ := h
    exact one_no s hs.1 hs.2 w hG _ rfl ⟨h2, h4, h3, h5⟩
end Go.Proofs.YtnomfbmebafolaaGreatDoor.P

namespace Go.Proofs.YtnomfbmebafolaaGreatDoor.P
open Go.RowKit Go.Proofs.YtnomfbmebafolaaGreatDoorW.PrintWords Go.Proofs.YtnomfbmebafolaaGreatDoorW.PrintLast Go.Proofs.YtnomfbmebafolaaGreatDoorW.PrintMore
attribute [local go_sem] max2_int min2_int max_two min_two max_three min_three max_four min_four   -- for this text's walks alone
set_option linter.unusedVariables false
set_option linter.unusedSimpArgs false
def lex_Cut.l0 : Nat → ByteArray → List (S137) → Int → Option ((List (S137)) × Int × Int)
  | 0, _, _, _ => none
  | k + 1, x0, x5, x6 => if x6 < (x0.size : Int) then (if 0 ≤ x6 then ((lex_kind.f k (bt x0 x6)).bind fun t102 => (if t102 = 1 then (lex_Cut.l0 k x0 x5 (wrap64 (x6 + 1))) else (if x6 ≤ (x0.size : Int) then ((lex_one.f (x0.extract (x6 : Int).toNat x0.size)).bind fun bt103 => (if bt103.2.2.2.2 = 0 then (some (([] : List (S137)), x6, 12)) else (if x5.length < 3518437208883 then (lex_Cut.l0 k x0 (x5 ++ [(⟨bt103.1, bt103.2.1, bt103.2.2.1, x6⟩ : S137)]) (wrap64 (x6 + bt103.2.2.2.2))) else (none)))) else (none)))) else (none)) else (some (x5, 0, 0))
def lex_Cut.f (k : Nat) (a0 : ByteArray) : Option ((List (S137)) × Int × Int) := if (a0.size : Int) > 300 then (some (([] : List (S137)), 0, 2)) else (lex_Cut.l0 k a0 ([] : List (S137)) 0)
set_option maxHeartbeats 8000000 in
set_option maxRecDepth 100000 in
theorem lex_Cut.calls (k : Nat) (a0 : ByteArray) (r1 : List (S137)) (r2 : Int) (r3 : Int) (w : World) (hG : G2 w) (h : lex_Cut.f k a0 = some (r1, r2, r3)) :
    Calls Tryz.prog 50 #[.string a0] w fun e w' => ∃ v0_ : Value, e = .returned (.tuple #[v0_, .int .i64 r2, .int .i64 r3]) ∧ Kd.R k137 137 w' w.heap.size (fun _ => True) v0_ r1 ∧ Below w.heap.size w w' := by
  have hu137 := Tryz.underlying137
  have HB := Aside0.mk (Below.refl w.heap.size w)
  have H : (if (a0.size : Int) > 300 then (some (([] : List (S137)), 0, 2)) else (lex_Cut.l0 k a0 ([] : List (S137)) 0)) = some (r1, r2, r3) := h
  clear h
  by_cases c2 : (a0.size : Int) > 300
  · rw [if_pos c2] at H
    have c2b0 : decide (300 < (a0.size : Int)) = true := decide_eq_true c2
    have c2b1 : decide (300 < a0.size) = true := decide_eq_true (by omega)
    clear c2
    simp only [Option.some.injEq, Prod.mk.injEq] at H
    obtain ⟨rfl, rfl, rfl⟩ := H
    go_enter Tryz.func50, Tryz.ntmps50
    go_wp2
    go_ret3
    exact ⟨_, by first | rfl | (simp [errW_none, errW_some] <;> rfl) | (simp [*, errW_none, errW_some] <;> rfl), by first | exact Kd.R_nil _ _ _ _ _ | exact Kd.N_nil _ _ _ _ _ | exact Kd.V_nil _ _ _ _ _ | exact Kd.Q_nil _ _ _ _ _ | exact Kd.S_nil _ _ _ _ _, zz1⟩
  · rw [if_neg c2] at H
    have c2b0 : decide (300 < (a0.size : Int)) = false := decide_eq_false c2
    have c2b1 : decide (300 < a0.size) = false := decide_eq_false (by omega)
    clear c2
    have H' := Aside0.mk H
    clear H
    go_enter Tryz.func50, Tryz.ntmps50
    go_wp2
    go_loopg [5, 6] k (fun kq v5 v6 w' => ∃ (x5_1 : List (S137)) (x6_1 : Int), v6 = .int .i64 x6_1 ∧ Aside0 (lex_Cut.l0 kq a0 x5_1 x6_1 = some (r1, r2, r3)) ∧ Aside0 (kq ≤ k) ∧ Aside0 (Kd.R k137 137 w' w.heap.size (fun _ => True) v5 x5_1) ∧ Aside0 (Below w.heap.size w w'))
    case atStart => exact ⟨(([] : List (S137))), (0), zz27, H', ⟨Nat.le_refl _⟩, ⟨by first | exact Kd.R_nil _ _ _ _ _ | exact Kd.N_nil _ _ _ _ _ | exact Kd.V_nil _ _ _ _ _ | exact Kd.Q_nil _ _ _ _ _ | exact Kd.S_nil _ _ _ _ _⟩, ⟨zz1⟩⟩
    case round =>
      clear H'
      try clear c2
      try clear c2b0
      try clear c2b1
      try clear p2
      obtain ⟨x5_1, x6_1, rfl, HA, HK1, HO_5, HB⟩ := hrel
      cases gk with
      | zero => exact absurd HA.out (by simp [lex_Cut.l0])
      | succ k1 =>
        have H := HA.out
        clear HA
        simp only [lex_Cut.l0] at H
        by_cases c3 : x6_1 < (a0.size : Int)
        · rw [if_pos c3] at H
          have c3b0 : decide (x6_1 < (a0.size : Int)) = true := decide_eq_true c3
          clear c3
          by_cases c4 : 0 ≤ x6_1
          · rw [if_pos c4] at H
            have c4b0 : decide (0 ≤ x6_1) = true := decide_eq_true c4
            clear c4
            replace H := Option.bind_eq_some_iff.mp H
            obtain ⟨t102, A60, H⟩ := H
            replace H : (if t102 = 1 then (lex_Cut.l0 k1 a0 x5_1 (wrap64 (x6_1 + 1))) else (if x6_1 ≤ (a0.size : Int) then ((lex_one.f (a0.extract (x6_1 : Int).toNat a0.size)).bind fun bt103 => (if bt103.2.2.2.2 = 0 then (some (([] : List (S137)), x6_1, 12)) else (if x5_1.length < 3518437208883 then (lex_Cut.l0 k1 a0 (x5_1 ++ [(⟨bt103.1, bt103.2.1, bt103.2.2.1, x6_1⟩ : S137)]) (wrap64 (x6_1 + bt103.2.2.2.2))) else (none)))) else (none))) = some (r1, r2, r3) := H
            have A6 := Aside0.mk A60
            clear A60
            by_cases c7 : t102 = 1
            · rw [if_pos c7] at H
              have c7b0 : (t102 == 1) = true := beq_iff_eq.mpr c7
              have c7b1 : (t102 != 1) = false := bne_eq_false_iff_eq.mpr c7
              clear c7
              have H' := Aside0.mk H
              clear H
              have p5 : 0 ≤ (x6_1 : Int) := of_decide_eq_true (by first | (with_reducible assumption) | assumption)
              have q5 : x6_1 < (a0.size : Int) := of_decide_eq_true (by first | (with_reducible assumption) | assumption)
              have hx5 := bt_at a0 x6_1
              replace p5 := eq_true p5
              replace q5 := eq_true q5
              go_wp2_with (first | ((with_reducible refine gate_callee (f := 71) rfl ?_); refine goesL_ (some 19) rfl rfl Tryz.func71 (by kernel_rfl) rfl #[.int .u8 (bt a0 x6_1)] rfl zz25 ?_; (with_reducible refine (lex_kind.calls k1 (bt a0 x6_1) t102 _ A6.out).mono ?_); rintro e w8 ⟨rfl, hb⟩; refine ⟨_, rfl, ?_⟩; have n0_ := Aside0.mk (Kd.R_below (by (with_reducible repeat (first | apply Kd.R_alloc | apply Kd.R_drewN | apply Kd.R_drew)); exact HO_5.out) hb); have n1_ := Aside0.mk (below_step zz1 hb); clear HO_5; clear HB; have HO_5 := n0_; have HB := n1_; clear n0_ n1_; (try clear hb); (try clear hb2); (try clear hk); (try clear hi)))
              go_roundg k1
              case measure => have := HK1.out; omega
              case rel => exact ⟨(x5_1), (wrap64 (x6_1 + 1)), zz27, H', ⟨by have := HK1.out; omega⟩, ⟨by (with_reducible repeat (first | apply Kd.R_alloc | apply Kd.R_drewN | apply Kd.R_drew)); exact HO_5.out⟩, ⟨zz1⟩⟩
            · rw [if_neg c7] at H
              have c7b0 : (t102 == 1) = false := beq_eq_false_iff_ne.mpr c7
              have c7b1 : (t102 != 1) = true := bne_iff_ne.mpr c7
              have c9b0 := eq_true (of_decide_eq_true (by first | (with_reducible assumption) | assumption) : 0 ≤ x6_1)
              by_cases c10 : x6_1 ≤ (a0.size : Int)
              · rw [if_pos c10] at H
                have c10b0 := eq_true c10
                have c10b1 : decide (x6_1 ≤ (a0.size : Int)) = true := decide_eq_true c10
                clear c10
                replace H := Option.bind_eq_some_iff.mp H
                obtain ⟨⟨t103, t104, t105, t106, t107⟩, A110, H⟩ := H
                replace H : (if t107 = 0 then (some (([] : List (S137)), x6_1, 12)) else (if x5_1.length < 3518437208883 then (lex_Cut.l0 k1 a0 (x5_1 ++ [(⟨t103, t104, t105, x6_1⟩ : S137)]) (wrap64 (x6_1 + t107))) else (none))) = some (r1, r2, r3) := H
                have A11 := Aside0.mk A110
                clear A110
                by_cases c12 : t107 = 0
                · rw [if_pos c12] at H
                  have c12b0 : (t107 == 0) = true := beq_iff_eq.mpr c12
                  have c12b1 : (t107 != 0) = false := bne_eq_false_iff_eq.mpr c12
                  clear c12
                  simp only [Option.some.injEq, Prod.mk.injEq] at H
                  obtain ⟨rfl, rfl, rfl⟩ := H
                  have p5 : 0 ≤ (x6_1 : Int) := of_decide_eq_true (by first | (with_reducible assumption) | assumption)
                  have q5 : x6_1 < (a0.size : Int) := of_decide_eq_true (by first | (with_reducible assumption) | assumption)
                  have hx5 := bt_at a0 x6_1
                  replace p5 := eq_true p5
                  replace q5 := eq_true q5
                  go_wp2_with (first | ((with_reducible refine gate_callee (f := 71) rfl ?_); refine goesL_ (some 19) rfl rfl Tryz.func71 (by kernel_rfl) rfl #[.int .u8 (bt a0 x6_1)] rfl zz25 ?_; (with_reducible refine (lex_kind.calls k1 (bt a0 x6_1) t102 _ A6.out).mono ?_); rintro e w13 ⟨rfl, hb⟩; refine ⟨_, rfl, ?_⟩; have n0_ := Aside0.mk (Kd.R_below (by (with_reducible repeat (first | apply Kd.R_alloc | apply Kd.R_drewN | apply Kd.R_drew)); exact HO_5.out) hb); have n1_ := Aside0.mk (below_step zz1 hb); clear HO_5; clear HB; have HO_5 := n0_; have HB := n1_; clear n0_ n1_; (try clear hb); (try clear hb2); (try clear hk); (try clear hi)) | ((with_reducible refine gate_callee (f := 72) rfl ?_); refine goesL_ (some 27) rfl rfl Tryz.func72 (by kernel_rfl) rfl #[.string (a0.extract (x6_1 : Int).toNat a0.size)] rfl zz25 ?_; (with_reducible refine (lex_one.calls (a0.extract (x6_1 : Int).toNat a0.size) t103 t104 t105 t106 t107 _ ?side1 A11.out).mono ?_); (case side1 => exact gl_2_2 zz1 hG); rintro e w14 ⟨rfl, hb⟩; refine ⟨_, rfl, ?_⟩; have n0_ := Aside0.mk (Kd.R_below (by (with_reducible repeat (first | apply Kd.R_alloc | apply Kd.R_drewN | apply Kd.R_drew)); exact HO_5.out) hb); have n1_ := Aside0.mk (below_step zz1 hb); clear HO_5; clear HB; have HO_5 := n0_; have HB := n1_; clear n0_ n1_; (try clear hb); (try clear hb2); (try clear hk); (try clear hi)) | ((with_reducible refine gate_dst (N := 7) rfl ?_); refine box_event ?hg (N := 7) ?hd (cs := #[.int .i64 0, .int .i64 0, .string (⟨#[]⟩ : ByteArray), .int .i64 0]) (t := 137) ?hr ?_; (case hd => rfl); (case hg => rfl); (case hr => first | (go_simp; done) | (go_simp; rfl)); intro gb108 hg w15 hbox hb; have n0_ := Aside0.mk (Kd.R_below (Kd.R_elderB (by (with_reducible repeat (first | apply Kd.R_alloc | apply Kd.R_drewN | apply Kd.R_drew)); exact HO_5.out) gb108 (Nat.le_of_eq hg.symm)) hb); have n1_ := Aside0.mk (below_step zz1 hb); have n2_ := Aside0.mk (hbox); have n3_ := Aside0.mk ((by rw [hg]; exact (below_size zz1) : w.heap.size ≤ gb108)); have n4_ := n3_; clear HO_5; clear HB; have HO_5 := n0_; have HB := n1_; have BK108 := n2_; have GW108 := n3_; have GE108 := n4_; clear n0_ n1_ n2_ n3_ n4_; clear hb hbox hg; obtain ⟨_, _, _, _, _, _, _, _⟩ := zC4 BK108.out))
                  go_ret3
                  exact ⟨_, by first | rfl | (simp [errW_none, errW_some] <;> rfl) | (simp [*, errW_none, errW_some] <;> rfl), by first | exact Kd.R_nil _ _ _ _ _ | exact Kd.N_nil _ _ _ _ _ | exact Kd.V_nil _ _ _ _ _ | exact Kd.Q_nil _ _ _ _ _ | exact Kd.S_nil _ _ _ _ _, zz18⟩
                · rw [if_neg c12] at H
                  have c12b0 : (t107 == 0) = false := beq_eq_false_iff_ne.mpr c12
                  have c12b1 : (t107 != 0) = true := bne_iff_ne.mpr c12
                  by_cases c17 : x5_1.length < 3518437208883
                  · rw [if_pos c17] at H
                    have LMc17 := Aside0.mk c17
                    clear c17
                    obtain ⟨y109, hy109⟩ : ∃ y_ : List (S137), y_ = (x5_1 ++ [(⟨t103, t104, t105, x6_1⟩ : S137)]) := ⟨_, rfl⟩
                    replace H : (lex_Cut.l0 k1 a0 y109 (wrap64 (x6_1 + t107))) = some (r1, r2, r3) := by first | (rw [hy109]; with_reducible exact H) | (have H2_ := (Option.bind_some _ _).symm.trans H; rw [hy109]; with_reducible exact H2_) | (have H2_ := (Option.bind_some _ _).symm.trans H; with_reducible exact H2_) | with_reducible exact H | (rw [hy109]; exact H) | exact H
                    have Ny109 := Aside0.mk hy109
                    clear hy109
                    have H' := Aside0.mk H
                    clear H
                    have p5 : 0 ≤ (x6_1 : Int) := of_decide_eq_true (by first | (with_reducible assumption) | assumption)
                    have q5 : x6_1 < (a0.size : Int) := of_decide_eq_true (by first | (with_reducible assumption) | assumption)
                    have hx5 := bt_at a0 x6_1
                    replace p5 := eq_true p5
                    replace q5 := eq_true q5
                    have tok36 : True := trivial
                    go_wp2_with (first | ((with_reducible refine gate_dst (N := 36) rfl ?_); have _t := tok36; clear tok36 _t; have hb36 := blk_put (blk_put (blk_put (blk_put (blk_put BK108.out 0 (.int .i64 t103) rfl) 1 (.int .i64 t104) rfl) 2 (.string t105) rfl) 3 (.int .i64 t106) rfl) 3 (.int .i64 x6_1) rfl; obtain ⟨hy0_, hy1_, hy2_, hy3_, hw0_, hw1_, hw2_, hw3_⟩ := zC4 hb36; clear hb36) | ((with_reducible refine gate_callee (f := 71) rfl ?_); refine goesL_ (some 19) rfl rfl Tryz.func71 (by kernel_rfl) rfl #[.int .u8 (bt a0 x6_1)] rfl zz25 ?_; (with_reducible refine (lex_kind.calls k1 (bt a0 x6_1) t102 _ A6.out).mono ?_); rintro e w18 ⟨rfl, hb⟩; refine ⟨_, rfl, ?_⟩; have n0_ := Aside0.mk (Kd.R_below (by (with_reducible repeat (first | apply Kd.R_alloc | apply Kd.R_drewN | apply Kd.R_drew)); exact HO_5.out) hb); have n1_ := Aside0.mk (below_step zz1 hb); clear HO_5; clear HB; have HO_5 := n0_; have HB := n1_; clear n0_ n1_; (try clear hb); (try clear hb2); (try clear hk); (try clear hi)) | ((with_reducible refine gate_callee (f := 72) rfl ?_); refine goesL_ (some 27) rfl rfl Tryz.func72 (by kernel_rfl) rfl #[.string (a0.extract (x6_1 : Int).toNat a0.size)] rfl zz25 ?_; (with_reducible refine (lex_one.calls (a0.extract (x6_1 : Int).toNat a0.size) t103 t104 t105 t106 t107 _ ?side1 A11.out).mono ?_); (case side1 => exact gl_2_2 zz1 hG); rintro e w19 ⟨rfl, hb⟩; refine ⟨_, rfl, ?_⟩; have n0_ := Aside0.mk (Kd.R_below (by (with_reducible repeat (first | apply Kd.R_alloc | apply Kd.R_drewN | apply Kd.R_drew)); exact HO_5.out) hb); have n1_ := Aside0.mk (below_step zz1 hb); clear HO_5; clear HB; have HO_5 := n0_; have HB := n1_; clear n0_ n1_; (try clear hb); (try clear hb2); (try clear hk); (try clear hi)) | ((with_reducible refine gate_dst (N := 7) rfl ?_); refine box_event ?hg (N := 7) ?hd (cs := #[.int .i64 0, .int .i64 0, .string (⟨#[]⟩ : ByteArray), .int .i64 0]) (t := 137) ?hr ?_; (case hd => rfl); (case hg => rfl); (case hr => first | (go_simp; done) | (go_simp; rfl)); intro gb108 hg w20 hbox hb; have n0_ := Aside0.mk (Kd.R_below (Kd.R_elderB (by (with_reducible repeat (first | apply Kd.R_alloc | apply Kd.R_drewN | apply Kd.R_drew)); exact HO_5.out) gb108 (Nat.le_of_eq hg.symm)) hb); have n1_ := Aside0.mk (below_step zz1 hb); have n2_ := Aside0.mk (hbox); have n3_ := Aside0.mk ((by rw [hg]; exact (below_size zz1) : w.heap.size ≤ gb108)); have n4_ := n3_; clear HO_5; clear HB; have HO_5 := n0_; have HB := n1_; have BK108 := n2_; have GW108 := n3_; have GE108 := n4_; clear n0_ n1_ n2_ n3_ n4_; clear hb hbox hg; obtain ⟨_, _, _, _, _, _, _, _⟩ := zC4 BK108.out) | ((with_reducible refine gate_builtin (b := .append) (xs := #[.tmp 35, .tmp 37]) rfl ?_); at_builtin; refine Kd.R_append k137 (w0 := w) w.heap.size rfl (.tmp 35) (.tmp 37) 101 137 (.agg #[(.int .i64 0), (.int .i64 0), (.string ⟨#[]⟩), (.int .i64 0)]) 40 rfl Tryz.underlying101 info137 rfl (by decide) (by omega) u5 x5_1 (⟨t103, t104, t105, x6_1⟩ : S137) [.int .i64 t103, .int .i64 t104, .string t105, .int .i64 x6_1] (fun k_ => k_ ≠ gb108) (fun _ => False) rfl (by first | (go_simp; done) | (go_simp; rfl)) ?aP (fun _ hk => hk.elim) ?aF ?aO ?aB ?aS ?aL ?_; (case aP => exact k137_mkM _ _ _ (⟨t103, t104, t105, x6_1⟩ : S137)); (case aB => exact zz18); (case aF => exact (fun k_ hk => Kd.freshB (g := gb108) (o := .cells #[.int .i64 t103, .int .i64 t104, .string t105, .int .i64 x6_1] 137 (0, 0)) (by refine zB ?_; refine blk_put (cs := #[.int .i64 t103, .int .i64 t104, .string t105, .int .i64 t106]) ?_ 3 _ rfl; refine zB ?_; refine blk_put (cs := #[.int .i64 t103, .int .i64 t104, .string t105, .int .i64 0]) ?_ 3 _ rfl; refine zB ?_; refine blk_put (cs := #[.int .i64 t103, .int .i64 t104, .string (⟨#[]⟩ : ByteArray), .int .i64 0]) ?_ 2 _ rfl; refine zB ?_; refine blk_put (cs := #[.int .i64 t103, .int .i64 0, .string (⟨#[]⟩ : ByteArray), .int .i64 0]) ?_ 1 _ rfl; refine zB ?_; refine blk_put (cs := #[.int .i64 0, .int .i64 0, .string (⟨#[]⟩ : ByteArray), .int .i64 0]) ?_ 0 _ rfl; refine zB ?_; exact BK108.out) k_ hk)); (case aO => exact (by (with_reducible repeat (first | apply Kd.R_alloc | apply Kd.R_drewN | apply Kd.R_drew)); exact Kd.R_mono (Kd.R_far (p := ⟨gb108, 3, none⟩) (Kd.R_far (p := ⟨gb108, 3, none⟩) (Kd.R_far (p := ⟨gb108, 2, none⟩) (Kd.R_far (p := ⟨gb108, 1, none⟩) (Kd.R_far (p := ⟨gb108, 0, none⟩) (Kd.R_mono HO_5.out (fun k_ hk => (⟨hk, hk.2⟩ : _ ∧ k_ ≠ gb108))) (fun _ hk => hk.2) (.int .i64 t103)) (fun _ hk => hk.2) (.int .i64 t104)) (fun _ hk => hk.2) (.string t105)) (fun _ hk => hk.2) (.int .i64 t106)) (fun _ hk => hk.2) (.int .i64 x6_1)) (fun _ hk => hk.1.2))); (case aS => exact (below_size zz18)); (case aL => have := LMc17.out; omega); intro v110 w22 ho hb hg hat; rw [← Ny109.out] at ho; have n0_ := Aside0.mk (blk_grown (g := gb108) (o := .cells #[.int .i64 t103, .int .i64 t104, .string t105, .int .i64 x6_1] 137 (0, 0)) (by refine zB ?_; refine blk_put (cs := #[.int .i64 t103, .int .i64 t104, .string t105, .int .i64 t106]) ?_ 3 _ rfl; refine zB ?_; refine blk_put (cs := #[.int .i64 t103, .int .i64 t104, .string t105, .int .i64 0]) ?_ 3 _ rfl; refine zB ?_; refine blk_put (cs := #[.int .i64 t103, .int .i64 t104, .string (⟨#[]⟩ : ByteArray), .int .i64 0]) ?_ 2 _ rfl; refine zB ?_; refine blk_put (cs := #[.int .i64 t103, .int .i64 0, .string (⟨#[]⟩ : ByteArray), .int .i64 0]) ?_ 1 _ rfl; refine zB ?_; refine blk_put (cs := #[.int .i64 0, .int .i64 0, .string (⟨#[]⟩ : ByteArray), .int .i64 0]) ?_ 0 _ rfl; refine zB ?_; exact BK108.out) hg (Kd.R_away HO_5.out (fun _ hk => hk.2))); have n1_ := Aside0.mk (hb); have n2_ := Aside0.mk (ho); clear BK108; clear HB; clear HO_5; have BK108 := n0_; have HB := n1_; have HO111 := n2_; clear n0_ n1_ n2_; clear ho hb hg hat))
                    go_roundg k1
                    case measure => have := HK1.out; omega
                    case rel => exact ⟨(y109), (wrap64 (x6_1 + t107)), zz27, H', ⟨by have := HK1.out; omega⟩, ⟨by (with_reducible repeat (first | apply Kd.R_alloc | apply Kd.R_drewN | apply Kd.R_drew)); exact Kd.R_mono HO111.out (fun _ hk => trivial)⟩, ⟨zz18⟩⟩
                  · rw [if_neg c17] at H
                    exact absurd H (by simp)
              · rw [if_neg c10] at H
                exact absurd H (by simp)
          · rw [if_neg c4] at H
            exact absurd H (by simp)
        · rw [if_neg c3] at H
          have c3b0 : decide (x6_1 < (a0.size : Int)) = false := decide_eq_false c3
          clear c3
          simp only [Option.some.injEq, Prod.mk.injEq] at H
          obtain ⟨rfl, rfl, rfl⟩ := H
          go_wp2
          go_ret3
          exact ⟨_, by first | rfl | (simp [errW_none, errW_some] <;> rfl) | (simp [*, errW_none, errW_some] <;> rfl), by (with_reducible repeat (first | apply Kd.R_alloc | apply Kd.R_drewN | apply Kd.R_drew)); exact HO_5.out, zz1⟩
end Go.Proofs.YtnomfbmebafolaaGreatDoor.P

namespace Go.Proofs.YtnomfbmebafolaaGreatDoor.P
open Go.RowKit Go.Proofs.YtnomfbmebafolaaGreatDoorW.PrintWords Go.Proofs.YtnomfbmebafolaaGreatDoorW.PrintLast Go.Proofs.YtnomfbmebafolaaGreatDoorW.PrintMore
attribute [local go_sem] max2_int min2_int max_two min_two max_three min_three max_four min_four   -- for this text's walks alone
set_option linter.unusedVariables false
set_option linter.unusedSimpArgs false
mutual
def tree_depth.l0 : Nat → Int → List (S31) → Int → Int → Option (Int)
  | 0, _, _, _, _ => none
  | k + 1, x3, x7, x8, x9 => if x9 < x8 then (if 0 ≤ x9 then (if x9 < (x7.length : Int) then ((tree_depth.f k ((rd_T31 x7 x9).f0) ((rd_T31 x7 x9).f1.f0) ((rd_T31 x7 x9).f1.f1) ((rd_T31 x7 x9).f1.f2) ((rd_T31 x7 x9).f2.f0.f0) ((rd_T31 x7 x9).f2.f0.f1) ((rd_T31 x7 x9).f2.f1.f0) ((rd_T31 x7 x9).f2.f1.f1) ((rd_T31 x7 x9).f3) ((rd_T31 x7 x9).f4)).bind fun t175 => (tree_depth.l0 k (mx x3 t175) x7 x8 (wrap64 (x9 + 1)))) else (none)) else (none)) else (some (wrap64 (x3 + 1)))
def tree_depth.f : Nat → Int → Int → Int → ByteArray → Int → Int → Int → Int → ByteArray → List (S31) → Option (Int)
  | 0, _, _, _, _, _, _, _, _, _, _ => none
  | k + 1, a0_0, a0_1, a0_2, a0_3, a0_4, a0_5, a0_6, a0_7, a0_8, l0_9 => tree_depth.l0 k 0 l0_9 (l0_9.length : Int) 0
end
theorem tree_depth.mono_l : ∀ k, (∀ y0 y1 y2 y3 y4 y5 y6 y7 y8 y9, LeO (tree_depth.f k y0 y1 y2 y3 y4 y5 y6 y7 y8 y9) (tree_depth.f (k + 1) y0 y1 y2 y3 y4 y5 y6 y7 y8 y9)) ∧ (∀ y0 y1 y2 y3, LeO (tree_depth.l0 k y0 y1 y2 y3) (tree_depth.l0 (k + 1) y0 y1 y2 y3))
  | 0 => ⟨fun _ _ _ _ _ _ _ _ _ _ r h => by simp [tree_depth.f] at h, fun _ _ _ _ r h => by simp [tree_depth.l0] at h⟩
  | k + 1 => by
    obtain ⟨ih0, ih1⟩ := tree_depth.mono_l k
    refine ⟨?_, ?_⟩
    · intro y0 y1 y2 y3 y4 y5 y6 y7 y8 y9
      unfold tree_depth.f
      repeat' first
      | (with_reducible exact ih0 _ _ _ _ _ _ _ _ _ _)
      | (with_reducible exact ih1 _ _ _ _)
      | (with_reducible exact LeO.refl _)
      | (with_reducible exact LeO.none _)
      | (with_reducible refine LeO.ite ?_ ?_)
      | (with_reducible refine LeO.bind ?_ (fun _ => ?_))
      | exact ih0 _ _ _ _ _ _ _ _ _ _
      | exact ih1 _ _ _ _
      | exact LeO.none _
      | refine LeO.ite ?_ ?_
      | refine LeO.bind ?_ (fun _ => ?_)
    · intro y0 y1 y2 y3
      unfold tree_depth.l0
      repeat' first
      | (with_reducible exact ih0 _ _ _ _ _ _ _ _ _ _)
      | (with_reducible exact ih1 _ _ _ _)
      | (with_reducible exact LeO.refl _)
      | (with_reducible exact LeO.none _)
      | (with_reducible refine LeO.ite ?_ ?_)
      | (with_reducible refine LeO.bind ?_ (fun _ => ?_))
      | exact ih0 _ _ _ _ _ _ _ _ _ _
      | exact ih1 _ _ _ _
      | exact LeO.none _
      | refine LeO.ite ?_ ?_
      | refine LeO.bind ?_ (fun _ => ?_)
theorem tree_depth.mono : ∀ a0 a1 a2 a3 a4 a5 a6 a7 a8 a9 k, LeO (tree_depth.f k a0 a1 a2 a3 a4 a5 a6 a7 a8 a9) (tree_depth.f (k + 1) a0 a1 a2 a3 a4 a5 a6 a7 a8 a9) := by
  intro a0 a1 a2 a3 a4 a5 a6 a7 a8 a9 k
  obtain ⟨ih0, ih1⟩ := tree_depth.mono_l k
  exact ih0 a0 a1 a2 a3 a4 a5 a6 a7 a8 a9
set_option maxHeartbeats 8000000 in
set_option maxRecDepth 100000 in
theorem tree_depth.calls (k : Nat) : ∀ (a0_0 : Int) (a0_1 : Int) (a0_2 : Int) (a0_3 : ByteArray) (a0_4 : Int) (a0_5 : Int) (a0_6 : Int) (a0_7 : Int) (a0_8 : ByteArray) (A0_9 : Option Addr) (c0_9 : Nat) (l0_9 : List (S31)) (r : Int) (w : World) (hr0_9 : Kd.C k31 w A0_9 l0_9.length l0_9) (hc0_9 : l0_9.length ≤ c0_9) (h : tree_depth.f k a0_0 a0_1 a0_2 a0_3 a0_4 a0_5 a0_6 a0_7 a0_8 l0_9 = some r),
    Calls Tryz.prog 26 #[.agg #[.int .i64 a0_0, .int .i64 a0_1, .int .i64 a0_2, .string a0_3, .int .i64 a0_4, .int .i64 a0_5, .int .i64 a0_6, .int .i64 a0_7, .string a0_8, .slice A0_9 l0_9.length c0_9]] w fun e w' => e = .returned (.int .i64 r) ∧ Below w.heap.size w w' := by
  induction k using Nat.strongRecOn with
  | _ k ih =>
  intro a0_0 a0_1 a0_2 a0_3 a0_4 a0_5 a0_6 a0_7 a0_8 A0_9 c0_9 l0_9 r w hr0_9 hc0_9 h
  cases k with
  | zero => exact absurd h (by simp [tree_depth.f])
  | succ k =>
  simp only [tree_depth.f] at h
  have hu31 := Tryz.underlying31
  have HR0_9 := Aside0.mk hr0_9
  have HC0_9 := Aside0.mk hc0_9
  clear hr0_9 hc0_9
  have HB := Aside0.mk (Below.refl w.heap.size w)
  have H : (tree_depth.l0 k 0 l0_9 (l0_9.length : Int) 0) = some r := h
  clear h
  have H' := Aside0.mk H
  clear H
  go_enter Tryz.func26, Tryz.ntmps26
  go_wp2_with (first | ((with_reducible refine gate_dst (N := 1) rfl ?_); refine box_event ?hg (N := 1) ?hd (cs := #[.int .i64 a0_0, .int .i64 a0_1, .int .i64 a0_2, .string a0_3, .int .i64 a0_4, .int .i64 a0_5, .int .i64 a0_6, .int .i64 a0_7, .string a0_8, .slice A0_9 l0_9.length c0_9]) (t := 31) ?hr ?_; (case hd => rfl); (case hg => rfl); (case hr => first | (go_simp; done) | (go_simp; rfl)); intro gb172 hg w2 hbox hb; have n0_ := Aside0.mk (below_step zz1 hb); have n1_ := Aside0.mk (hbox); have n2_ := Aside0.mk ((by rw [hg]; exact (below_size zz1) : w.heap.size ≤ gb172)); have n3_ := n2_; clear HB; have HB := n0_; have BK172 := n1_; have GW172 := n2_; have GE172 := n3_; clear n0_ n1_ n2_ n3_; clear hb hbox hg; obtain ⟨hcz3_0, hcz3_1, hcz3_2, hcz3_3, hcz3_4, hcz3_5, hcz3_6, hcz3_7, hcz3_8, hcz3_9, hfz3_0, hfz3_1, hfz3_2, hfz3_3, hfz3_4, hfz3_5, hfz3_6, hfz3_7, hfz3_8, hfz3_9⟩ := zC10 BK172.out))
  go_loopg [3, 9] k (fun kq v3 v9 w' => ∃ (x3_1 : Int) (x9_1 : Int), v3 = .int .i64 x3_1 ∧ v9 = .int .i64 x9_1 ∧ Aside0 (tree_depth.l0 kq x3_1 l0_9 (l0_9.length : Int) x9_1 = some r) ∧ Aside0 (kq ≤ k) ∧ Aside0 (w'.heap[gb172]? = some (.cells #[.int .i64 a0_0, .int .i64 a0_1, .int .i64 a0_2, .string a0_3, .int .i64 a0_4, .int .i64 a0_5, .int .i64 a0_6, .int .i64 a0_7, .string a0_8, (.slice A0_9 l0_9.length c0_9)] 31 (0, 0))) ∧ Aside0 (Below w.heap.size w w'))
  case atStart => exact ⟨(0), (0), zz27, zz27, H', ⟨Nat.le_refl _⟩, ⟨by exact zB BK172.out⟩, ⟨zz19⟩⟩
  case round =>
    clear H'
    try clear c2
    try clear p2
    try clear hcz3_0
    try clear hcz3_1
    try clear hcz3_2
    try clear hcz3_3
    try clear hcz3_4
    try clear hcz3_5
    try clear hcz3_6
    try clear hcz3_7
    try clear hcz3_8
    try clear hcz3_9
    try clear hfz3_0
    try clear hfz3_1
    try clear hfz3_2
    try clear hfz3_3
    try clear hfz3_4
    try clear hfz3_5
    try clear hfz3_6
    try clear hfz3_7
    try clear hfz3_8
    try clear hfz3_9
    obtain ⟨x3_1, x9_1, rfl, rfl, HA, HK1, BK172, HB⟩ := hrel
    cases gk with
    | zero => exact absurd HA.out (by simp [tree_depth.l0])
    | succ k1 =>
      have H := HA.out
      clear HA
      simp only [tree_depth.l0] at H
      by_cases c4 : x9_1 < (l0_9.length : Int)
      · rw [if_pos c4] at H
        have c4b0 : decide (x9_1 < (l0_9.length : Int)) = true := decide_eq_true c4
        clear c4
        by_cases c5 : 0 ≤ x9_1
        · rw [if_pos c5] at H
          have c5b0 : decide (0 ≤ x9_1) = true := decide_eq_true c5
          clear c5
          by_cases c6 : x9_1 < (l0_9.length : Int)
          · rw [if_pos c6] at H
            have c6b0 : decide (x9_1 < (l0_9.length : Int)) = true := decide_eq_true c6
            clear c6
            replace H := Option.bind_eq_some_iff.mp H
            obtain ⟨t175, A70, H⟩ := H
            replace H : (tree_depth.l0 k1 (mx x3_1 t175) l0_9 (l0_9.length : Int) (wrap64 (x9_1 + 1))) = some r := H
            have A7 := Aside0.mk A70
            clear A70
            obtain ⟨ji8, hji8⟩ : ∃ j_ : Int, (mx x3_1 t175) = j_ := ⟨_, rfl⟩
            replace H : (tree_depth.l0 k1 ji8 l0_9 (l0_9.length : Int) (wrap64 (x9_1 + 1))) = some r := by first | (rw [hji8] at H; exact H) | (simp only [hji8] at H ⊢; exact H)
            (try rw [hji8] at A7)
            have hji8_ : (if x3_1 < t175 then t175 else x3_1) = ji8 := hji8
            have H' := Aside0.mk H
            clear H
            have p173 : 0 ≤ (x9_1 : Int) := of_decide_eq_true (by first | (with_reducible assumption) | assumption)
            have q173 : x9_1 < (l0_9.length : Int) := of_decide_eq_true (by first | (with_reducible assumption) | assumption)
            obtain ⟨ad173, A173_9, c173_9, e173, hx173_0, hx173_1, hx173_2, hx173_3, hx173_4, hx173_5, hx173_6, hx173_7, hx173_8, hx173_9, hl173_9, hi173_9⟩ := at_T31 HR0_9.out x9_1 p173 q173
            cases e173
            replace hx173_0 := (HB.out.cell (World.block_lt_of_cell? w _ hx173_0)).trans hx173_0
            replace hx173_1 := (HB.out.cell (World.block_lt_of_cell? w _ hx173_1)).trans hx173_1
            replace hx173_2 := (HB.out.cell (World.block_lt_of_cell? w _ hx173_2)).trans hx173_2
            replace hx173_3 := (HB.out.cell (World.block_lt_of_cell? w _ hx173_3)).trans hx173_3
            replace hx173_4 := (HB.out.cell (World.block_lt_of_cell? w _ hx173_4)).trans hx173_4
            replace hx173_5 := (HB.out.cell (World.block_lt_of_cell? w _ hx173_5)).trans hx173_5
            replace hx173_6 := (HB.out.cell (World.block_lt_of_cell? w _ hx173_6)).trans hx173_6
            replace hx173_7 := (HB.out.cell (World.block_lt_of_cell? w _ hx173_7)).trans hx173_7
            replace hx173_8 := (HB.out.cell (World.block_lt_of_cell? w _ hx173_8)).trans hx173_8
            replace hx173_9 := (HB.out.cell (World.block_lt_of_cell? w _ hx173_9)).trans hx173_9
            have HR173_9 := Aside0.mk hi173_9
            have HC173_9 := Aside0.mk hl173_9
            clear hi173_9 hl173_9
            replace p173 := eq_true p173
            replace q173 := eq_true q173
            go_wp2_with (first | ((with_reducible refine gate_dst (N := 5) rfl ?_); refine box_event ?hg (N := 5) ?hd (cs := #[.int .i64 0, .int .i64 0, .int .i64 0, .string (⟨#[]⟩ : ByteArray), .int .i64 0, .int .i64 0, .int .i64 0, .int .i64 0, .string (⟨#[]⟩ : ByteArray), .slice none 0 0]) (t := 31) ?hr ?_; (case hd => rfl); (case hg => rfl); (case hr => first | (go_simp; done) | (go_simp; rfl)); intro gb174 hg w9 hbox hb; have n0_ := Aside0.mk (blk_below (g := gb172) (o := .cells #[.int .i64 a0_0, .int .i64 a0_1, .int .i64 a0_2, .string a0_3, .int .i64 a0_4, .int .i64 a0_5, .int .i64 a0_6, .int .i64 a0_7, .string a0_8, .slice (some ad173) l0_9.length c0_9] 31 (0, 0)) (zB BK172.out) hb); have n1_ := Aside0.mk (below_step zz19 hb); have n2_ := Aside0.mk (hbox); have n3_ := Aside0.mk ((by rw [hg]; exact (below_size zz19) : w.heap.size ≤ gb174)); have n4_ := n3_; have n5_ := Aside0.mk ((by rw [hg]; exact Nat.ne_of_lt (blk_lt (g := gb172) (o := .cells #[.int .i64 a0_0, .int .i64 a0_1, .int .i64 a0_2, .string a0_3, .int .i64 a0_4, .int .i64 a0_5, .int .i64 a0_6, .int .i64 a0_7, .string a0_8, .slice (some ad173) l0_9.length c0_9] 31 (0, 0)) (zB BK172.out)) : gb172 ≠ gb174)); have n6_ := Aside0.mk ((by rw [hg]; exact Nat.ne_of_gt (blk_lt (g := gb172) (o := .cells #[.int .i64 a0_0, .int .i64 a0_1, .int .i64 a0_2, .string a0_3, .int .i64 a0_4, .int .i64 a0_5, .int .i64 a0_6, .int .i64 a0_7, .string a0_8, .slice (some ad173) l0_9.length c0_9] 31 (0, 0)) (zB BK172.out)) : gb174 ≠ gb172)); clear BK172; clear HB; have BK172 := n0_; have HB := n1_; have BK174 := n2_; have GW174 := n3_; have GE174 := n4_; have NB172_174 := n5_; have NB174_172 := n6_; clear n0_ n1_ n2_ n3_ n4_ n5_ n6_; clear hb hbox hg; have hnb10 := NB174_172.out; have hnc10 := NB172_174.out; obtain ⟨_, _, _, _, _, _, _, _, _, _, _, _, _, _, _, _, _, _, _, _⟩ := zC10 BK174.out) | ((with_reducible refine gate_callee (f := 26) rfl ?_); refine goesL_ (some 15) rfl rfl Tryz.func26 (by kernel_rfl) rfl #[.agg #[.int .i64 ((rd_T31 l0_9 x9_1).f0), .int .i64 ((rd_T31 l0_9 x9_1).f1.f0), .int .i64 ((rd_T31 l0_9 x9_1).f1.f1), .string ((rd_T31 l0_9 x9_1).f1.f2), .int .i64 ((rd_T31 l0_9 x9_1).f2.f0.f0), .int .i64 ((rd_T31 l0_9 x9_1).f2.f0.f1), .int .i64 ((rd_T31 l0_9 x9_1).f2.f1.f0), .int .i64 ((rd_T31 l0_9 x9_1).f2.f1.f1), .string ((rd_T31 l0_9 x9_1).f3), .slice A173_9 ((rd_T31 l0_9 x9_1).f4).length c173_9]] rfl zz25 ?_; (with_reducible refine (ih k1 (by have := HK1.out; omega) ((rd_T31 l0_9 x9_1).f0) ((rd_T31 l0_9 x9_1).f1.f0) ((rd_T31 l0_9 x9_1).f1.f1) ((rd_T31 l0_9 x9_1).f1.f2) ((rd_T31 l0_9 x9_1).f2.f0.f0) ((rd_T31 l0_9 x9_1).f2.f0.f1) ((rd_T31 l0_9 x9_1).f2.f1.f0) ((rd_T31 l0_9 x9_1).f2.f1.f1) ((rd_T31 l0_9 x9_1).f3) _ _ ((rd_T31 l0_9 x9_1).f4) t175 _ ?side1 ?side2 A7.out).mono ?_); (case side1 => exact Kd.C_below HR173_9.out zz23); (case side2 => exact HC173_9.out); rintro e w12 ⟨rfl, hb⟩; refine ⟨_, rfl, ?_⟩; have n0_ := Aside0.mk (blk_below (g := gb172) (o := .cells #[.int .i64 a0_0, .int .i64 a0_1, .int .i64 a0_2, .string a0_3, .int .i64 a0_4, .int .i64 a0_5, .int .i64 a0_6, .int .i64 a0_7, .string a0_8, .slice (some ad173) l0_9.length c0_9] 31 (0, 0)) (by refine zB (blk_far ?_ NB172_174.out _); refine zB ?_; refine blk_far ?_ NB172_174.out _; refine zB (blk_far ?_ NB172_174.out _); refine zB ?_; refine blk_far ?_ NB172_174.out _; refine zB (blk_far ?_ NB172_174.out _); refine zB ?_; refine blk_far ?_ NB172_174.out _; refine zB (blk_far ?_ NB172_174.out _); refine zB ?_; refine blk_far ?_ NB172_174.out _; refine zB (blk_far ?_ NB172_174.out _); refine zB (blk_far ?_ NB172_174.out _); refine zB ?_; exact BK172.out) hb); have n1_ := Aside0.mk (blk_below (g := gb174) (o := .cells #[.int .i64 ((rd_T31 l0_9 x9_1).f0), .int .i64 ((rd_T31 l0_9 x9_1).f1.f0), .int .i64 ((rd_T31 l0_9 x9_1).f1.f1), .string ((rd_T31 l0_9 x9_1).f1.f2), .int .i64 ((rd_T31 l0_9 x9_1).f2.f0.f0), .int .i64 ((rd_T31 l0_9 x9_1).f2.f0.f1), .int .i64 ((rd_T31 l0_9 x9_1).f2.f1.f0), .int .i64 ((rd_T31 l0_9 x9_1).f2.f1.f1), .string ((rd_T31 l0_9 x9_1).f3), .slice A173_9 ((rd_T31 l0_9 x9_1).f4).length c173_9] 31 (0, 0)) (by refine zB ?_; refine blk_put (cs := #[.int .i64 ((rd_T31 l0_9 x9_1).f0), .int .i64 ((rd_T31 l0_9 x9_1).f1.f0), .int .i64 ((rd_T31 l0_9 x9_1).f1.f1), .string ((rd_T31 l0_9 x9_1).f1.f2), .int .i64 ((rd_T31 l0_9 x9_1).f2.f0.f0), .int .i64 ((rd_T31 l0_9 x9_1).f2.f0.f1), .int .i64 ((rd_T31 l0_9 x9_1).f2.f1.f0), .int .i64 ((rd_T31 l0_9 x9_1).f2.f1.f1), .string ((rd_T31 l0_9 x9_1).f3), .slice none 0 0]) ?_ 9 _ rfl; refine zB ?_; refine blk_put (cs := #[.int .i64 ((rd_T31 l0_9 x9_1).f0), .int .i64 ((rd_T31 l0_9 x9_1).f1.f0), .int .i64 ((rd_T31 l0_9 x9_1).f1.f1), .string ((rd_T31 l0_9 x9_1).f1.f2), .int .i64 ((rd_T31 l0_9 x9_1).f2.f0.f0), .int .i64 ((rd_T31 l0_9 x9_1).f2.f0.f1), .int .i64 ((rd_T31 l0_9 x9_1).f2.f1.f0), .int .i64 ((rd_T31 l0_9 x9_1).f2.f1.f1), .string (⟨#[]⟩ : ByteArray), .slice none 0 0]) ?_ 8 _ rfl; refine zB ?_; refine blk_put (cs := #[.int .i64 ((rd_T31 l0_9 x9_1).f0), .int .i64 ((rd_T31 l0_9 x9_1).f1.f0), .int .i64 ((rd_T31 l0_9 x9_1).f1.f1), .string ((rd_T31 l0_9 x9_1).f1.f2), .int .i64 ((rd_T31 l0_9 x9_1).f2.f0.f0), .int .i64 ((rd_T31 l0_9 x9_1).f2.f0.f1), .int .i64 ((rd_T31 l0_9 x9_1).f2.f1.f0), .int .i64 0, .string (⟨#[]⟩ : ByteArray), .slice none 0 0]) ?_ 7 _ rfl; refine zB ?_; refine blk_put (cs := #[.int .i64 ((rd_T31 l0_9 x9_1).f0), .int .i64 ((rd_T31 l0_9 x9_1).f1.f0), .int .i64 ((rd_T31 l0_9 x9_1).f1.f1), .string ((rd_T31 l0_9 x9_1).f1.f2), .int .i64 ((rd_T31 l0_9 x9_1).f2.f0.f0), .int .i64 ((rd_T31 l0_9 x9_1).f2.f0.f1), .int .i64 0, .int .i64 0, .string (⟨#[]⟩ : ByteArray), .slice none 0 0]) ?_ 6 _ rfl; refine zB ?_; refine blk_put (cs := #[.int .i64 ((rd_T31 l0_9 x9_1).f0), .int .i64 ((rd_T31 l0_9 x9_1).f1.f0), .int .i64 ((rd_T31 l0_9 x9_1).f1.f1), .string ((rd_T31 l0_9 x9_1).f1.f2), .int .i64 ((rd_T31 l0_9 x9_1).f2.f0.f0), .int .i64 0, .int .i64 0, .int .i64 0, .string (⟨#[]⟩ : ByteArray), .slice none 0 0]) ?_ 5 _ rfl; refine zB ?_; refine blk_put (cs := #[.int .i64 ((rd_T31 l0_9 x9_1).f0), .int .i64 ((rd_T31 l0_9 x9_1).f1.f0), .int .i64 ((rd_T31 l0_9 x9_1).f1.f1), .string ((rd_T31 l0_9 x9_1).f1.f2), .int .i64 0, .int .i64 0, .int .i64 0, .int .i64 0, .string (⟨#[]⟩ : ByteArray), .slice none 0 0]) ?_ 4 _ rfl; refine zB ?_; refine blk_put (cs := #[.int .i64 ((rd_T31 l0_9 x9_1).f0), .int .i64 ((rd_T31 l0_9 x9_1).f1.f0), .int .i64 ((rd_T31 l0_9 x9_1).f1.f1), .string (⟨#[]⟩ : ByteArray), .int .i64 0, .int .i64 0, .int .i64 0, .int .i64 0, .string (⟨#[]⟩ : ByteArray), .slice none 0 0]) ?_ 3 _ rfl; refine zB ?_; refine blk_put (cs := #[.int .i64 ((rd_T31 l0_9 x9_1).f0), .int .i64 ((rd_T31 l0_9 x9_1).f1.f0), .int .i64 0, .string (⟨#[]⟩ : ByteArray), .int .i64 0, .int .i64 0, .int .i64 0, .int .i64 0, .string (⟨#[]⟩ : ByteArray), .slice none 0 0]) ?_ 2 _ rfl; refine zB ?_; refine blk_put (cs := #[.int .i64 ((rd_T31 l0_9 x9_1).f0), .int .i64 0, .int .i64 0, .string (⟨#[]⟩ : ByteArray), .int .i64 0, .int .i64 0, .int .i64 0, .int .i64 0, .string (⟨#[]⟩ : ByteArray), .slice none 0 0]) ?_ 1 _ rfl; refine zB ?_; refine blk_put (cs := #[.int .i64 0, .int .i64 0, .int .i64 0, .string (⟨#[]⟩ : ByteArray), .int .i64 0, .int .i64 0, .int .i64 0, .int .i64 0, .string (⟨#[]⟩ : ByteArray), .slice none 0 0]) ?_ 0 _ rfl; refine zB ?_; exact BK174.out) hb); have n2_ := Aside0.mk (below_step zz23 hb); clear BK172; clear BK174; clear HB; have BK172 := n0_; have BK174 := n1_; have HB := n2_; clear n0_ n1_ n2_; (try clear hb); (try clear hb2); (try clear hk); (try clear hi)))
            go_roundg k1
            case measure => have := HK1.out; omega
            case rel => exact ⟨(ji8), (wrap64 (x9_1 + 1)), (by first | rfl | (simp; done) | (simp only [← hji8] <;> (first | rfl | simp)) | (simp [*]; done)), zz27, H', ⟨by have := HK1.out; omega⟩, ⟨by exact zB BK172.out⟩, ⟨zz23⟩⟩
          · rw [if_neg c6] at H
            exact absurd H (by simp)
        · rw [if_neg c5] at H
          exact absurd H (by simp)
      · rw [if_neg c4] at H
        have c4b0 : decide (x9_1 < (l0_9.length : Int)) = false := decide_eq_false c4
        clear c4
        obtain rfl := Option.some.inj H
        go_wp2
        go_ret
        exact ⟨zz26, zz19⟩
end Go.Proofs.YtnomfbmebafolaaGreatDoor.P

namespace Go.Proofs.YtnomfbmebafolaaGreatDoor.P
open Go.RowKit Go.Proofs.YtnomfbmebafolaaGreatDoorW.PrintWords Go.Proofs.YtnomfbmebafolaaGreatDoorW.PrintLast Go.Proofs.YtnomfbmebafolaaGreatDoorW.PrintMore
open M (I64)
set_option linter.unusedVariables false
set_option linter.unusedSimpArgs false
theorem Below.on2 {B C : Nat} {a b c : World} (h : Below B a b) (k : Below C b c) (hBC : B ≤ C) : Below B a c :=
  ⟨k.os.trans h.os, k.tape.trans h.tape, k.output.trans h.output, Nat.le_trans h.size k.size, fun i hi => (k.block i (Nat.lt_of_lt_of_le hi hBC)).trans (h.block i hi)⟩
theorem put1_below {B g j : Nat} {W0 W : World} {u : Value} (h : Below B W0 W) (hg : B ≤ g) : Below B W0 (W.setCell ⟨g, j, none⟩ u) :=
  ⟨h.os, h.tape, h.output, by simpa [World.setCell] using h.size, fun k hk => (Below.heap_setCell W ⟨g, j, none⟩ u k (by show k ≠ g; omega)).trans (h.block k hk)⟩
theorem put10_below {B g : Nat} {W0 W : World} (h : Below B W0 W) (hg : B ≤ g) (u0 u1 u2 u3 u4 u5 u6 u7 u8 u9 : Value) : Below B W0 (put10 W g u0 u1 u2 u3 u4 u5 u6 u7 u8 u9) :=
  put1_below (put1_below (put1_below (put1_below (put1_below (put1_below (put1_below (put1_below (put1_below (put1_below h hg) hg) hg) hg) hg) hg) hg) hg) hg) hg
theorem Below.on3 {B : Nat} {a b c : World} {o : Obj} (h : Below B a b) (k : Below (b.alloc o).heap.size (b.alloc o) c) (hB : B ≤ a.heap.size) : Below B a c :=
  Below.on2 h (Below.on2 (B := b.heap.size) (below_alloc (Below.refl _ _) o) k (by simp)) (Nat.le_trans hB h.size)
theorem put10_new (W : World) (g : Nat) (o : Obj) (u0 u1 u2 u3 u4 u5 u6 u7 u8 u9 : Value) : ((put10 W g u0 u1 u2 u3 u4 u5 u6 u7 u8 u9).alloc o).heap[W.heap.size]? = some o := by
  have h := blk_new (put10 W g u0 u1 u2 u3 u4 u5 u6 u7 u8 u9) o
  rw [put10_size] at h
  exact h
abbrev psO (A : Option Addr) (n c : Nat) (at_ en : Int) : Obj := .cells #[.slice A n c, .int .i64 at_, .int .i64 en] 106 (0, 0)
theorem PS.start {toks : List Tok} {W : World} {base : Nat} {A : Option Addr} {c : Nat} (h : Kd.R k137 137 W base (fun _ => True) (.slice A toks.length c) toks) (hG : G1 W) (en : Int) : PS W.heap.size toks en ((0 : Nat) : Int) (W.alloc (psO A toks.length c 0 en)) := by
  have hF : Kd.F k137 W (fun k => k < W.heap.size) A toks.length toks := Kd.R_F (Kd.R_mono (Kd.R_tight rfl h) (fun k hk => Kd.R_lt h k hk.symm))
  exact ⟨A, c, blk_new _ _, Kd.F_step hF (fun k hk _ => blk_alloc_old _ _ hk), W, hG, below_alloc (Below.refl _ _) _, Nat.le_refl _⟩
abbrev ParsedOk (s : ByteArray) (t : TN) : Prop := ∀ W : World, G4 W → Calls Tryz.prog 32 #[.string s] W fun e W' => RetOk W.heap.size t W' e ∧ Below W.heap.size W W'
abbrev ParsedBad (s : ByteArray) (p c : Int) : Prop := ∀ W : World, G4 W → Calls Tryz.prog 32 #[.string s] W fun e W' => RetBad W.heap.size p c W' e ∧ Below W.heap.size W W'
theorem Bu.belowG {a b : World} {o : Obj} (h : Bu a.heap.size (a.alloc o) b) : Below a.heap.size a b :=
  ⟨h.os, h.tape, h.output, Nat.le_trans (by simp) h.size, fun k hk => (h.block k (by simp; omega) (by omega)).trans (blk_alloc_old _ _ hk)⟩
theorem Uq35 {p q : Prop} (h0 : p) (h : p → q := by intro h_; with_reducible repeat (first | exact h_ | refine below_alloc ?_ _ | refine put10_below ?_ (Nat.le_refl _) _ _ _ _ _ _ _ _ _ _)) : q := h h0
theorem Uq36 {p q : Prop} (h0 : p) (h : p → q := by intro h_; with_reducible repeat (first | exact put10_blk h_ _ _ _ _ _ _ _ _ _ _ | refine put10_nd ?_ _ _ _ _ _ _ _ _ _ _ | exact BK3.out | refine blk_alloc ?_ _)) : q := h h0
set_option maxHeartbeats 4000000 in
set_option maxRecDepth 100000 in
theorem parsed_cut (s : ByteArray) (hs : s.size ≤ 1000000) (toks : List Tok) (K : Nat) (at_ code : Int) (hc : lex_Cut.f K s = some (toks, at_, code)) (hcode : code ≠ 0) : ParsedBad s at_ code := by
  intro W hG
  have hu := Tryz.underlying31
  have HG := Lib.hid hG
  have HC := Lib.hid hc
  have hq : ((code : Int) != 0) = true := bne_iff_ne.2 hcode
  clear hcode
  clear hG hc
  go_enter Tryz.func32, Tryz.ntmps32
  go_wp2_with (first | (go_at_call 50; go_loud ((with_reducible refine (lex_Cut.calls _ s toks _ _ _ ?sg HC.out).mono ?_)); go_loud ((case sg => exact gl_4_2 (below_alloc (Below.refl _ _) nd0) HG.out)); go_loud (rintro e w1 ⟨v1, rfl, hR, hbl⟩); go_loud (obtain ⟨A1, k1, rfl⟩ := Kd.R_slice hR); go_loud (have HR1 := Lib.hid hR); go_loud (have hb1 := Below.on3 (Below.refl _ W) hbl (Nat.le_refl _)); go_loud (have HB1 := Lib.hid hb1); go_loud (have BK1 := Lib.hid (blk_below (blk_new W nd0) hbl)); go_loud (have HG1 := Lib.hid (gl_4_1 hb1 HG.out)); go_loud (clear hR hbl hb1); go_loud ((try clear c0 c1 c2 c3 c4 c5 c6 c7 c8 c9 z0 z1 z2 z3 z4 z5 z6 z7 z8 z9 hsy)); go_loud (obtain ⟨⟨c0, c1, c2, c3, c4, c5, c6, c7, c8, c9⟩, z0, z1, z2, z3, z4, z5, z6, z7, z8, z9⟩ := z10 BK1.out); go_loud (have hsy : W.heap.size < w1.heap.size := blk_lt BK1.out)))
  refine bodyPost_ret (results_ct rfl _ _ W.heap.size 31 _ (0, 0) _ rfl (by with_reducible repeat (first | exact put10_blk BK1.out _ _ _ _ _ _ _ _ _ _ | refine put10_nd ?_ _ _ _ _ _ _ _ _ _ _ | exact BK1.out | refine blk_alloc ?_ _)) hu rfl (by kernel_rfl)) rfl ?_
  refine ⟨⟨w1.heap.size, ?_, ?_, Nat.le_of_lt (blk_lt BK1.out)⟩, (Uq35 HB1.out)⟩
  · rfl
  · exact (by with_reducible repeat (first | exact put10_new _ _ _ _ _ _ _ _ _ _ _ _ _ | exact blk_new _ _ | refine (put10_old (Nat.ne_of_gt (blk_lt BK1.out)) _ _ _ _ _ _ _ _ _ _).trans ?_))
set_option maxHeartbeats 4000000 in
set_option maxRecDepth 100000 in
theorem parsed_form (s : ByteArray) (hs : s.size ≤ 1000000) (toks : List Tok) (K : Nat) (at_ : Int) (hc : lex_Cut.f K s = some (toks, at_, 0)) (p c : Int) (n : Nat) (hf : Does 51 toks (s.size : Int) 0 0 (.bad p c, n)) : ParsedBad s p c := by
  intro W hG
  have hu := Tryz.underlying31
  have HG := Lib.hid hG
  have HC := Lib.hid hc
  have HF := Lib.hid hf
  clear hf
  clear hG hc
  go_enter Tryz.func32, Tryz.ntmps32
  go_wp2_with (first | (go_at_call 50; go_loud ((with_reducible refine (lex_Cut.calls _ s toks _ _ _ ?sg HC.out).mono ?_)); go_loud ((case sg => exact gl_4_2 (below_alloc (Below.refl _ _) nd0) HG.out)); go_loud (rintro e w1 ⟨v1, rfl, hR, hbl⟩); go_loud (obtain ⟨A1, k1, rfl⟩ := Kd.R_slice hR); go_loud (have HR1 := Lib.hid hR); go_loud (have hb1 := Below.on3 (Below.refl _ W) hbl (Nat.le_refl _)); go_loud (have HB1 := Lib.hid hb1); go_loud (have BK1 := Lib.hid (blk_below (blk_new W nd0) hbl)); go_loud (have HG1 := Lib.hid (gl_4_1 hb1 HG.out)); go_loud (clear hR hbl hb1); go_loud ((try clear c0 c1 c2 c3 c4 c5 c6 c7 c8 c9 z0 z1 z2 z3 z4 z5 z6 z7 z8 z9 hsy)); go_loud (obtain ⟨⟨c0, c1, c2, c3, c4, c5, c6, c7, c8, c9⟩, z0, z1, z2, z3, z4, z5, z6, z7, z8, z9⟩ := z10 BK1.out); go_loud (have hsy : W.heap.size < w1.heap.size := blk_lt BK1.out)) | (go_at_call 51; go_loud ((with_reducible refine (HF.out.bad w1.heap.size _ ?sp).mono ?_)); go_loud ((case sp => exact (PS.start HR1.out HG1.out _))); go_loud (rintro e w2 ⟨hp, hb, q, rfl, he, hq⟩); go_loud (have HE := Lib.hid he); go_loud (have HQ := Lib.hid (show W.heap.size < q from (by have h1 := blk_lt BK1.out; simp at hq; omega))); go_loud (clear he hq); go_loud (have HP2 := Lib.hid hp); go_loud (have HB2 := Lib.hid (Below.on2 HB1.out (Bu.belowG hb) HB1.out.size)); go_loud (have BK2 := Lib.hid (hb.blk (blk_alloc BK1.out _) (Nat.ne_of_lt (blk_lt BK1.out)))); go_loud (have hgl : w1.heap.size < w2.heap.size := PS.lt hp); go_loud (clear hp hb); go_loud ((try clear c0 c1 c2 c3 c4 c5 c6 c7 c8 c9 z0 z1 z2 z3 z4 z5 z6 z7 z8 z9 hsy)); go_loud (obtain ⟨⟨c0, c1, c2, c3, c4, c5, c6, c7, c8, c9⟩, z0, z1, z2, z3, z4, z5, z6, z7, z8, z9⟩ := z10 BK2.out); go_loud (have hsy : W.heap.size < w2.heap.size := blk_lt BK2.out)))
  refine bodyPost_ret (results_ct rfl _ _ W.heap.size 31 _ (0, 0) _ rfl (by with_reducible repeat (first | exact put10_blk BK2.out _ _ _ _ _ _ _ _ _ _ | refine put10_nd ?_ _ _ _ _ _ _ _ _ _ _ | exact BK2.out | refine blk_alloc ?_ _)) hu rfl (by kernel_rfl)) rfl ?_
  refine ⟨⟨q, ?_, ?_, Nat.le_of_lt HQ.out⟩, (Uq35 HB2.out)⟩
  · rfl
  · exact (Uq7 HE.out)
set_option maxHeartbeats 4000000 in
set_option maxRecDepth 100000 in
theorem parsed_more (s : ByteArray) (hs : s.size ≤ 1000000) (toks : List Tok) (K : Nat) (at_ : Int) (hc : lex_Cut.f K s = some (toks, at_, 0)) (t : TN) (n : Nat) (hf : Does 51 toks (s.size : Int) 0 0 (.ok t, n)) (hn : n < toks.length) : ParsedBad s (placeV toks (s.size : Int) n) 13 := by
  intro W hG
  have hu := Tryz.underlying31
  have HG := Lib.hid hG
  have HC := Lib.hid hc
  have hq1 : decide ((n : Int) < (toks.length : Int)) = true := decide_eq_true (by omega)
  have hq2 : decide (n < toks.length) = true := decide_eq_true (by omega)
  have hq3 : (n < toks.length) = True := eq_true (by omega)
  have HF := Lib.hid hf
  have HN := Lib.hid (Nat.le_of_lt hn)
  clear hf hn
  clear hG hc
  go_enter Tryz.func32, Tryz.ntmps32
  go_wp2_with (first | (go_at_call 50; go_loud ((with_reducible refine (lex_Cut.calls _ s toks _ _ _ ?sg HC.out).mono ?_)); go_loud ((case sg => exact gl_4_2 (below_alloc (Below.refl _ _) nd0) HG.out)); go_loud (rintro e w1 ⟨v1, rfl, hR, hbl⟩); go_loud (obtain ⟨A1, k1, rfl⟩ := Kd.R_slice hR); go_loud (have HR1 := Lib.hid hR); go_loud (have hb1 := Below.on3 (Below.refl _ W) hbl (Nat.le_refl _)); go_loud (have HB1 := Lib.hid hb1); go_loud (have BK1 := Lib.hid (blk_below (blk_new W nd0) hbl)); go_loud (have HG1 := Lib.hid (gl_4_1 hb1 HG.out)); go_loud (clear hR hbl hb1); go_loud ((try clear c0 c1 c2 c3 c4 c5 c6 c7 c8 c9 z0 z1 z2 z3 z4 z5 z6 z7 z8 z9 hsy)); go_loud (obtain ⟨⟨c0, c1, c2, c3, c4, c5, c6, c7, c8, c9⟩, z0, z1, z2, z3, z4, z5, z6, z7, z8, z9⟩ := z10 BK1.out); go_loud (have hsy : W.heap.size < w1.heap.size := blk_lt BK1.out)) | (go_at_call 51; go_loud ((with_reducible refine (HF.out.ok w1.heap.size _ ?sp).mono ?_)); go_loud ((case sp => exact (PS.start HR1.out HG1.out _))); go_loud (rintro e w2 ⟨hp, hb, v2, rfl, hv⟩); go_loud (obtain ⟨AA, kk, rfl⟩ := Kd.V_slice hv); go_loud (have HV := Lib.hid (Kd.V_mono (ok' := fun k => W.heap.size < k) hv (fun k hk => (by have h1 := blk_lt BK1.out; simp at hk; omega)))); go_loud (clear hv); go_loud (have HP2 := Lib.hid hp); go_loud (have HB2 := Lib.hid (Below.on2 HB1.out (Bu.belowG hb) HB1.out.size)); go_loud (have BK2 := Lib.hid (hb.blk (blk_alloc BK1.out _) (Nat.ne_of_lt (blk_lt BK1.out)))); go_loud (have hgl : w1.heap.size < w2.heap.size := PS.lt hp); go_loud (clear hp hb); go_loud ((try clear c0 c1 c2 c3 c4 c5 c6 c7 c8 c9 z0 z1 z2 z3 z4 z5 z6 z7 z8 z9 hsy)); go_loud (obtain ⟨⟨c0, c1, c2, c3, c4, c5, c6, c7, c8, c9⟩, z0, z1, z2, z3, z4, z5, z6, z7, z8, z9⟩ := z10 BK2.out); go_loud (have hsy : W.heap.size < w2.heap.size := blk_lt BK2.out); go_loud (obtain ⟨Ap, cp, p0, p1, p2, pz, -, -⟩ := HP2.out.cells)) | (go_at_call 52; go_loud ((with_reducible refine (fail_calls w1.heap.size toks (s.size : Int) n HN.out _ ?sp).mono ?_)); go_loud ((case sp => exact HP2.out.alloc _)); go_loud (rintro e w3 ⟨q, rfl, he, hq, hbl⟩); go_loud (have HE := Lib.hid he); go_loud (have HQ := Lib.hid (show W.heap.size < q from (by have h1 := blk_lt BK2.out; simp at hq; omega))); go_loud (have HB3 := Lib.hid (Below.on3 HB2.out hbl (Nat.le_refl _))); go_loud (have BK3 := Lib.hid (blk_below (blk_alloc BK2.out _) hbl)); go_loud (clear he hq hbl); go_loud ((try clear c0 c1 c2 c3 c4 c5 c6 c7 c8 c9 z0 z1 z2 z3 z4 z5 z6 z7 z8 z9 hsy)); go_loud (obtain ⟨⟨c0, c1, c2, c3, c4, c5, c6, c7, c8, c9⟩, z0, z1, z2, z3, z4, z5, z6, z7, z8, z9⟩ := z10 BK3.out); go_loud (have hsy : W.heap.size < w3.heap.size := blk_lt BK3.out)))
  refine bodyPost_ret (results_ct rfl _ _ W.heap.size 31 _ (0, 0) _ rfl (Uq36 BK3.out) hu rfl (by kernel_rfl)) rfl ?_
  refine ⟨⟨q, ?_, ?_, Nat.le_of_lt HQ.out⟩, (Uq35 HB3.out)⟩
  · rfl
  · exact (Uq7 HE.out)
set_option maxHeartbeats 4000000 in
set_option maxRecDepth 100000 in
theorem parsed_deep (s : ByteArray) (hs : s.size ≤ 1000000) (toks : List Tok) (K : Nat) (at_ : Int) (hc : lex_Cut.f K s = some (toks, at_, 0)) (t : TN) (n : Nat) (hf : Does 51 toks (s.size : Int) 0 0 (.ok t, n)) (hn : ¬ n < toks.length) (D : Nat) (d : Int) (hd : tree_depth.f D t.f0 t.f1.f0 t.f1.f1 t.f1.f2 t.f2.f0.f0 t.f2.f0.f1 t.f2.f1.f0 t.f2.f1.f1 t.f3 t.f4 = some d) (h16 : 16 < d) : ParsedBad s 0 14 := by
  intro W hG
  have hu := Tryz.underlying31
  have HG := Lib.hid hG
  have HC := Lib.hid hc
  have hq1 : decide ((n : Int) < (toks.length : Int)) = false := decide_eq_false (by omega)
  have hq2 : decide (n < toks.length) = false := decide_eq_false (by omega)
  have hq3 : (n < toks.length) = False := eq_false (by omega)
  have hd1 : decide (16 < d) = true := decide_eq_true (by omega)
  have HD := Lib.hid hd
  have HF := Lib.hid hf
  clear hf hn hd h16
  clear hG hc
  go_enter Tryz.func32, Tryz.ntmps32
  go_wp2_with (first | (go_at_call 50; go_loud ((with_reducible refine (lex_Cut.calls _ s toks _ _ _ ?sg HC.out).mono ?_)); go_loud ((case sg => exact gl_4_2 (below_alloc (Below.refl _ _) nd0) HG.out)); go_loud (rintro e w1 ⟨v1, rfl, hR, hbl⟩); go_loud (obtain ⟨A1, k1, rfl⟩ := Kd.R_slice hR); go_loud (have HR1 := Lib.hid hR); go_loud (have hb1 := Below.on3 (Below.refl _ W) hbl (Nat.le_refl _)); go_loud (have HB1 := Lib.hid hb1); go_loud (have BK1 := Lib.hid (blk_below (blk_new W nd0) hbl)); go_loud (have HG1 := Lib.hid (gl_4_1 hb1 HG.out)); go_loud (clear hR hbl hb1); go_loud ((try clear c0 c1 c2 c3 c4 c5 c6 c7 c8 c9 z0 z1 z2 z3 z4 z5 z6 z7 z8 z9 hsy)); go_loud (obtain ⟨⟨c0, c1, c2, c3, c4, c5, c6, c7, c8, c9⟩, z0, z1, z2, z3, z4, z5, z6, z7, z8, z9⟩ := z10 BK1.out); go_loud (have hsy : W.heap.size < w1.heap.size := blk_lt BK1.out)) | (go_at_call 51; go_loud ((with_reducible refine (HF.out.ok w1.heap.size _ ?sp).mono ?_)); go_loud ((case sp => exact (PS.start HR1.out HG1.out _))); go_loud (rintro e w2 ⟨hp, hb, v2, rfl, hv⟩); go_loud (obtain ⟨AA, kk, rfl⟩ := Kd.V_slice hv); go_loud (have HV := Lib.hid (Kd.V_mono (ok' := fun k => W.heap.size < k) hv (fun k hk => (by have h1 := blk_lt BK1.out; simp at hk; omega)))); go_loud (clear hv); go_loud (have HP2 := Lib.hid hp); go_loud (have HB2 := Lib.hid (Below.on2 HB1.out (Bu.belowG hb) HB1.out.size)); go_loud (have BK2 := Lib.hid (hb.blk (blk_alloc BK1.out _) (Nat.ne_of_lt (blk_lt BK1.out)))); go_loud (have hgl : w1.heap.size < w2.heap.size := PS.lt hp); go_loud (clear hp hb); go_loud ((try clear c0 c1 c2 c3 c4 c5 c6 c7 c8 c9 z0 z1 z2 z3 z4 z5 z6 z7 z8 z9 hsy)); go_loud (obtain ⟨⟨c0, c1, c2, c3, c4, c5, c6, c7, c8, c9⟩, z0, z1, z2, z3, z4, z5, z6, z7, z8, z9⟩ := z10 BK2.out); go_loud (have hsy : W.heap.size < w2.heap.size := blk_lt BK2.out); go_loud (obtain ⟨Ap, cp, p0, p1, p2, pz, -, -⟩ := HP2.out.cells)) | (go_at_call 26; go_loud ((with_reducible refine (tree_depth.calls _ _ _ _ _ _ _ _ _ _ AA kk t.f4 _ _ ?sr ?sc HD.out).mono ?_)); go_loud ((case sr => exact (Kd.V_reads' (Kd.V_alloc HV.out (ndO t (.slice AA t.f4.length kk)))).2.2)); go_loud ((case sc => exact (Kd.V_reads' HV.out).2.1)); go_loud (rintro e w3 ⟨rfl, hbl⟩); go_loud (have HB3 := Lib.hid (Below.on3 HB2.out hbl (Nat.le_refl _))); go_loud (have BK3 := Lib.hid (blk_below (blk_alloc BK2.out _) hbl)); go_loud (have BN3 := Lib.hid (blk_below (blk_new w2 (ndO t (.slice AA t.f4.length kk))) hbl)); go_loud (have HV3 := Lib.hid (Kd.V_below (Kd.V_alloc HV.out (ndO t (.slice AA t.f4.length kk))) hbl)); go_loud (clear hbl p0 p1 p2 pz hgl); go_loud ((try clear c0 c1 c2 c3 c4 c5 c6 c7 c8 c9 z0 z1 z2 z3 z4 z5 z6 z7 z8 z9 hsy)); go_loud (obtain ⟨⟨c0, c1, c2, c3, c4, c5, c6, c7, c8, c9⟩, z0, z1, z2, z3, z4, z5, z6, z7, z8, z9⟩ := z10 BK3.out); go_loud (have hsy : W.heap.size < w3.heap.size := blk_lt BK3.out); go_loud (obtain ⟨⟨a0, a1, a2, a3, a4, a5, a6, a7, a8, a9⟩, x0, x1, x2, x3, x4, x5, x6, x7, x8, x9⟩ := z10 BN3.out)))
  refine bodyPost_ret (results_ct rfl _ _ W.heap.size 31 _ (0, 0) _ rfl (Uq36 BK3.out) hu rfl (by kernel_rfl)) rfl ?_
  refine ⟨⟨w3.heap.size, ?_, ?_, Nat.le_of_lt (blk_lt BK3.out)⟩, (Uq35 HB3.out)⟩
  · rfl
  · exact (by with_reducible repeat (first | exact put10_new _ _ _ _ _ _ _ _ _ _ _ _ _ | exact blk_new _ _ | refine (put10_old (Nat.ne_of_gt (blk_lt BK3.out)) _ _ _ _ _ _ _ _ _ _).trans ?_))
set_option maxHeartbeats 4000000 in
set_option maxRecDepth 100000 in
theorem parsed_ok (s : ByteArray) (hs : s.size ≤ 1000000) (toks : List Tok) (K : Nat) (at_ : Int) (hc : lex_Cut.f K s = some (toks, at_, 0)) (t : TN) (n : Nat) (hf : Does 51 toks (s.size : Int) 0 0 (.ok t, n)) (hn : ¬ n < toks.length) (D : Nat) (d : Int) (hd : tree_depth.f D t.f0 t.f1.f0 t.f1.f1 t.f1.f2 t.f2.f0.f0 t.f2.f0.f1 t.f2.f1.f0 t.f2.f1.f1 t.f3 t.f4 = some d) (h16 : ¬ 16 < d) : ParsedOk s t := by
  intro W hG
  have hu := Tryz.underlying31
  have HG := Lib.hid hG
  have HC := Lib.hid hc
  have hq1 : decide ((n : Int) < (toks.length : Int)) = false := decide_eq_false (by omega)
  have hq2 : decide (n < toks.length) = false := decide_eq_false (by omega)
  have hq3 : (n < toks.length) = False := eq_false (by omega)
  have hd1 : decide (16 < d) = false := decide_eq_false (by omega)
  have HD := Lib.hid hd
  have HF := Lib.hid hf
  clear hf hn hd h16
  clear hG hc
  go_enter Tryz.func32, Tryz.ntmps32
  go_wp2_with (first | (go_at_call 50; go_loud ((with_reducible refine (lex_Cut.calls _ s toks _ _ _ ?sg HC.out).mono ?_)); go_loud ((case sg => exact gl_4_2 (below_alloc (Below.refl _ _) nd0) HG.out)); go_loud (rintro e w1 ⟨v1, rfl, hR, hbl⟩); go_loud (obtain ⟨A1, k1, rfl⟩ := Kd.R_slice hR); go_loud (have HR1 := Lib.hid hR); go_loud (have hb1 := Below.on3 (Below.refl _ W) hbl (Nat.le_refl _)); go_loud (have HB1 := Lib.hid hb1); go_loud (have BK1 := Lib.hid (blk_below (blk_new W nd0) hbl)); go_loud (have HG1 := Lib.hid (gl_4_1 hb1 HG.out)); go_loud (clear hR hbl hb1); go_loud ((try clear c0 c1 c2 c3 c4 c5 c6 c7 c8 c9 z0 z1 z2 z3 z4 z5 z6 z7 z8 z9 hsy)); go_loud (obtain ⟨⟨c0, c1, c2, c3, c4, c5, c6, c7, c8, c9⟩, z0, z1, z2, z3, z4, z5, z6, z7, z8, z9⟩ := z10 BK1.out); go_loud (have hsy : W.heap.size < w1.heap.size := blk_lt BK1.out)) | (go_at_call 51; go_loud ((with_reducible refine (HF.out.ok w1.heap.size _ ?sp).mono ?_)); go_loud ((case sp => exact (PS.start HR1.out HG1.out _))); go_loud (rintro e w2 ⟨hp, hb, v2, rfl, hv⟩); go_loud (obtain ⟨AA, kk, rfl⟩ := Kd.V_slice hv); go_loud (have HV := Lib.hid (Kd.V_mono (ok' := fun k => W.heap.size < k) hv (fun k hk => (by have h1 := blk_lt BK1.out; simp at hk; omega)))); go_loud (clear hv); go_loud (have HP2 := Lib.hid hp); go_loud (have HB2 := Lib.hid (Below.on2 HB1.out (Bu.belowG hb) HB1.out.size)); go_loud (have BK2 := Lib.hid (hb.blk (blk_alloc BK1.out _) (Nat.ne_of_lt (blk_lt BK1.out)))); go_loud (have hgl : w1.heap.size < w2.heap.size := PS.lt hp); go_loud (clear hp hb); go_loud ((try clear c0 c1 c2 c3 c4 c5 c6 c7 c8 c9 z0 z1 z2 z3 z4 z5 z6 z7 z8 z9 hsy)); go_loud (obtain ⟨⟨c0, c1, c2, c3, c4, c5, c6, c7, c8, c9⟩, z0, z1, z2, z3, z4, z5, z6, z7, z8, z9⟩ := z10 BK2.out); go_loud (have hsy : W.heap.size < w2.heap.size := blk_lt BK2.out); go_loud (obtain ⟨Ap, cp, p0, p1, p2, pz, -, -⟩ := HP2.out.cells)) | (go_at_call 26; go_loud ((with_reducible refine (tree_depth.calls _ _ _ _ _ _ _ _ _ _ AA kk t.f4 _ _ ?sr ?sc HD.out).mono ?_)); go_loud ((case sr => exact (Kd.V_reads' (Kd.V_alloc HV.out (ndO t (.slice AA t.f4.length kk)))).2.2)); go_loud ((case sc => exact (Kd.V_reads' HV.out).2.1)); go_loud (rintro e w3 ⟨rfl, hbl⟩); go_loud (have HB3 := Lib.hid (Below.on3 HB2.out hbl (Nat.le_refl _))); go_loud (have BK3 := Lib.hid (blk_below (blk_alloc BK2.out _) hbl)); go_loud (have BN3 := Lib.hid (blk_below (blk_new w2 (ndO t (.slice AA t.f4.length kk))) hbl)); go_loud (have HV3 := Lib.hid (Kd.V_below (Kd.V_alloc HV.out (ndO t (.slice AA t.f4.length kk))) hbl)); go_loud (clear hbl p0 p1 p2 pz hgl); go_loud ((try clear c0 c1 c2 c3 c4 c5 c6 c7 c8 c9 z0 z1 z2 z3 z4 z5 z6 z7 z8 z9 hsy)); go_loud (obtain ⟨⟨c0, c1, c2, c3, c4, c5, c6, c7, c8, c9⟩, z0, z1, z2, z3, z4, z5, z6, z7, z8, z9⟩ := z10 BK3.out); go_loud (have hsy : W.heap.size < w3.heap.size := blk_lt BK3.out); go_loud (obtain ⟨⟨a0, a1, a2, a3, a4, a5, a6, a7, a8, a9⟩, x0, x1, x2, x3, x4, x5, x6, x7, x8, x9⟩ := z10 BN3.out)))
  refine bodyPost_ret (results_ct rfl _ _ W.heap.size 31 _ (0, 0) _ rfl (Uq36 BK3.out) hu rfl (by kernel_rfl)) rfl ?_
  refine ⟨⟨.slice AA t.f4.length kk, ?_, ?_⟩, (Uq35 HB3.out)⟩
  · rfl
  · exact Kd.V_mono (put10_vN (ok := fun k => W.heap.size < k) HV3.out (fun k hk => Nat.ne_of_gt hk) _ _ _ _ _ _ _ _ _ _) (fun k hk => Nat.le_of_lt hk)
end Go.Proofs.YtnomfbmebafolaaGreatDoor.P

namespace Go.Proofs.YtnomfbmebafolaaGreatDoor.P
open Go.RowKit Go.Proofs.YtnomfbmebafolaaGreatDoorW.PrintWords Go.Proofs.YtnomfbmebafolaaGreatDoorW.PrintLast Go.Proofs.YtnomfbmebafolaaGreatDoorW.PrintMore
open M (I64)
set_option linter.unusedVariables false
set_option linter.unusedSimpArgs false
attribute [local go_sem ↓] Go.wp_at_zero Go.wp_at_succ
abbrev ParseOk (s : ByteArray) (t : TN) : Prop := ∀ W : World, G4 W → Calls Tryz.prog 14 #[.string s] W fun e W' => (∃ v9, e = .returned (.tuple #[ndV t v9, .int .i64 0, .int .i64 0]) ∧ vN (fun k => W.heap.size ≤ k) W' v9 t.f4) ∧ Below W.heap.size W W'
abbrev ParseBad (s : ByteArray) (p c : Int) : Prop := ∀ W : World, G4 W → Calls Tryz.prog 14 #[.string s] W fun e W' => e = .returned (.tuple #[ndV z31 (.slice none 0 0), .int .i64 p, .int .i64 c]) ∧ Below W.heap.size W W'
theorem as_nil (t : Value) (w : World) : Calls Tryz.prog 33 #[.nilIface, t] w fun e w' => e = .returned (.bool false) ∧ w' = w := ea_nil t w
theorem as_hit (q T : Nat) (w : World) (hg : w.cell? ⟨1, 0, none⟩ = some (.iface 145 (.agg #[.pointer (some ⟨10, 64, none⟩)]))) (ht : w.heap[T]? = some (.cells #[.pointer none] 78 (0, 0))) :
    Calls Tryz.prog 33 #[.iface 78 (ptr q), .iface 80 (ptr T)] w fun e w' => e = .returned (.bool true) ∧ w'.heap[T]? = some (.cells #[ptr q] 78 (0, 0)) ∧ ∃ w1, Below w.heap.size w w1 ∧ w' = w1.setCell ⟨T, 0, none⟩ (ptr q) := by
  refine (ea_hit ⟨q, 0, none⟩ ⟨T, 0, none⟩ (.pointer none) w hg ((blk_cell ht 0).trans rfl) (blk_frozen ht 0)).mono ?_
  rintro e w' ⟨rfl, rfl⟩
  have hb : Below w.heap.size w ((((w.alloc (.cells #[ptr T] 80)).alloc (.cells #[.pointer (some ⟨10, 80, none⟩), .pointer (some ⟨w.heap.size, 0, none⟩), .int .u64 150] 112)).alloc (.cells #[.pointer (some ⟨10, 80, none⟩), .pointer (some ⟨w.heap.size, 0, none⟩), .int .u64 150] 112)).alloc (.cells #[ptr q] 78)) := below_alloc (below_alloc (below_alloc (below_alloc (Below.refl _ _) _) _) _) _
  exact ⟨rfl, blk_put (blk_below ht hb) 0 _ rfl, _, hb, rfl⟩
set_option maxHeartbeats 4000000 in
set_option maxRecDepth 100000 in
theorem treeParse_ok (s : ByteArray) (t : TN) (hp : ParsedOk s t) : ParseOk s t := by
  intro W hG
  have hu := Tryz.underlying31
  have HG := Lib.hid hG
  have HP := Lib.hid hp
  clear hG hp
  go_enter Tryz.func14, Tryz.ntmps14
  go_wp2_with (first | (go_at_call 32; go_loud ((with_reducible refine (HP.out (W.alloc nd0) ?sg).mono ?_)); go_loud ((case sg => exact gl_4_4 (below_alloc (Below.refl _ _) nd0) HG.out)); go_loud (rintro e w1 ⟨hret, hbl⟩); go_loud (have hb1 := Below.on3 (Below.refl _ W) hbl (Nat.le_refl _)); go_loud (have HB1 := Lib.hid hb1); go_loud (have BK1 := Lib.hid (blk_below (blk_new W nd0) hbl)); go_loud (have HG1 := Lib.hid (gl_4_4 hb1 HG.out)); go_loud (obtain ⟨v9, rfl, hv⟩ := hret); go_loud (obtain ⟨AA, kk, rfl⟩ := Kd.V_slice hv); go_loud (have HV := Lib.hid (Kd.V_mono (ok' := fun k => W.heap.size < k) hv (fun k hk => (by simp at hk; omega)))); go_loud (clear hv); go_loud (clear hbl hb1); go_loud ((try clear c0 c1 c2 c3 c4 c5 c6 c7 c8 c9 z0 z1 z2 z3 z4 z5 z6 z7 z8 z9 hsy)); go_loud (obtain ⟨⟨c0, c1, c2, c3, c4, c5, c6, c7, c8, c9⟩, z0, z1, z2, z3, z4, z5, z6, z7, z8, z9⟩ := z10 BK1.out); go_loud (have hsy : W.heap.size < w1.heap.size := blk_lt BK1.out)) | (go_at_call 33; go_loud ((with_reducible refine (as_nil _ _).mono ?_)); go_loud (rintro e w2 ⟨rfl, rfl⟩)))
  refine bodyPost_ret (results_ctt rfl _ _ W.heap.size 31 _ (0, 0) _ rfl (blk_alloc (blk_alloc (put10_blk BK1.out _ _ _ _ _ _ _ _ _ _) _) _) hu rfl (by kernel_rfl)) rfl ?_
  refine ⟨⟨.slice AA t.f4.length kk, rfl, ?_⟩, ?_⟩
  · exact Kd.V_alloc (Kd.V_alloc (Kd.V_mono (put10_vN (ok := fun k => W.heap.size < k) HV.out (fun k hk => Nat.ne_of_gt hk) _ _ _ _ _ _ _ _ _ _) (fun k hk => Nat.le_of_lt hk)) _) _
  · exact below_alloc (below_alloc (put10_below HB1.out (Nat.le_refl _) _ _ _ _ _ _ _ _ _ _) _) _
set_option maxHeartbeats 4000000 in
set_option maxRecDepth 100000 in
theorem treeParse_bad (s : ByteArray) (p c : Int) (hp : ParsedBad s p c) : ParseBad s p c := by
  intro W hG
  have hu := Tryz.underlying31
  have HG := Lib.hid hG
  have HP := Lib.hid hp
  clear hG hp
  go_enter Tryz.func14, Tryz.ntmps14
  go_wp2_with (first | (go_at_call 32; go_loud ((with_reducible refine (HP.out (W.alloc nd0) ?sg).mono ?_)); go_loud ((case sg => exact gl_4_4 (below_alloc (Below.refl _ _) nd0) HG.out)); go_loud (rintro e w1 ⟨hret, hbl⟩); go_loud (have hb1 := Below.on3 (Below.refl _ W) hbl (Nat.le_refl _)); go_loud (have HB1 := Lib.hid hb1); go_loud (have BK1 := Lib.hid (blk_below (blk_new W nd0) hbl)); go_loud (have HG1 := Lib.hid (gl_4_4 hb1 HG.out)); go_loud (obtain ⟨q, rfl, he, hq⟩ := hret); go_loud (have HE := Lib.hid he); go_loud (have HQ := Lib.hid (show W.heap.size < q from (by simp at hq; omega))); go_loud (clear he hq); go_loud (clear hbl hb1); go_loud ((try clear c0 c1 c2 c3 c4 c5 c6 c7 c8 c9 z0 z1 z2 z3 z4 z5 z6 z7 z8 z9 hsy)); go_loud (obtain ⟨⟨c0, c1, c2, c3, c4, c5, c6, c7, c8, c9⟩, z0, z1, z2, z3, z4, z5, z6, z7, z8, z9⟩ := z10 BK1.out); go_loud (have hsy : W.heap.size < w1.heap.size := blk_lt BK1.out)) | (go_at_call 33; go_loud ((with_reducible refine (as_hit q _ _ ?sg ?st).mono ?_)); go_loud ((case sg => exact (gl_4_4 (below_alloc (below_alloc (Below.refl _ _) _) _) HG1.out).2)); go_loud ((case st => exact blk_at _ _ _ (by simp))); go_loud (rintro e w2 ⟨rfl, ht, wx, hbl, hw⟩); go_loud (have hb2 : Below w1.heap.size w1 w2 := (by rw [hw]; exact put1_below (Below.on2 (below_alloc (below_alloc (Below.refl _ _) _) _) hbl (by simp; omega)) (Nat.le_succ _))); go_loud (clear hw hbl); go_loud (have HB2 := Lib.hid (Below.on2 HB1.out hb2 HB1.out.size)); go_loud (have BK2 := Lib.hid (blk_below BK1.out hb2)); go_loud (have e1_ := blk_below HE.out hb2); go_loud (have e2_ := blk_lt HE.out); go_loud (have e3_ := HQ.out); go_loud (have e4_ := blk_lt BK1.out); go_loud (have s0 := (blk_cell ht 0).trans rfl); go_loud (have s1 := (blk_cell e1_ 0).trans rfl); go_loud (have s2 := (blk_cell e1_ 1).trans rfl); go_loud (have n1 : (q = W.heap.size) = False := eq_false (by omega)); go_loud (have n2 : (W.heap.size = q) = False := eq_false (by omega)); go_loud (have n3 : (w1.heap.size + 1 = W.heap.size) = False := eq_false (by omega)); go_loud (have n4 : (W.heap.size = w1.heap.size + 1) = False := eq_false (by omega)); go_loud (clear ht hb2 e1_ e2_ e3_ e4_); go_loud ((try clear c0 c1 c2 c3 c4 c5 c6 c7 c8 c9 z0 z1 z2 z3 z4 z5 z6 z7 z8 z9 hsy)); go_loud (obtain ⟨⟨c0, c1, c2, c3, c4, c5, c6, c7, c8, c9⟩, z0, z1, z2, z3, z4, z5, z6, z7, z8, z9⟩ := z10 BK2.out); go_loud (have hsy : W.heap.size < w2.heap.size := blk_lt BK2.out)))
  go_region_held3 (fun w' => w'.cell? ⟨w1.heap.size + 1, 0, none⟩ = some (ptr q) ∧ w'.cell? ⟨q, 0, none⟩ = some (.int .i64 p) ∧ w'.cell? ⟨q, 1, none⟩ = some (.int .i64 c)) (go_keep) (fail)
  go_wp2
  refine bodyPost_ret (results_ctt rfl _ _ W.heap.size 31 _ (0, 0) _ rfl (by with_reducible repeat (first | exact put10_nd BK2.out _ _ _ _ _ _ _ _ _ _ | exact BK2.out | exact put10_blk BK2.out _ _ _ _ _ _ _ _ _ _ | refine blk_drew ?_ | refine blk_drewN ?_ _)) hu rfl (by kernel_rfl)) rfl ?_
  refine ⟨rfl, ?_⟩
  exact (by with_reducible repeat (first | exact HB2.out | refine put10_below ?_ (Nat.le_refl _) _ _ _ _ _ _ _ _ _ _ | refine pw_below_drewN ?_ _ | refine below_drew1 ?_))
end Go.Proofs.YtnomfbmebafolaaGreatDoor.P

namespace Go.Proofs.YtnomfbmebafolaaGreatDoor.P
open Go.RowKit Go.Proofs.YtnomfbmebafolaaGreatDoorW.PrintWords Go.Proofs.YtnomfbmebafolaaGreatDoorW.PrintLast Go.Proofs.YtnomfbmebafolaaGreatDoorW.PrintMore
open M (I64)
set_option linter.unusedVariables false
set_option linter.unusedSimpArgs false
theorem nd_heap : Kd.Heap k31 :=
  have a : Kd.Heap k24 := Kd.heap_iso _ (Kd.heap_pair (Kd.heap_int .i64) (Kd.heap_pair (Kd.heap_int .i64) Kd.heap_string))
  have b : Kd.Heap k26 := Kd.heap_iso _ (Kd.heap_pair (Kd.heap_int .i64) (Kd.heap_int .i64))
  have c : Kd.Heap k28 := Kd.heap_iso _ (Kd.heap_pair b b)
  Kd.heap_fix (fun _ h_ => Kd.heap_iso _ (Kd.heap_pair (Kd.heap_int .i64) (Kd.heap_pair a (Kd.heap_pair c (Kd.heap_pair Kd.heap_string (Kd.heap_slice 31 h_))))))
def fewL (f : TN → Int → Bool × Int) : List TN → Int → Bool × Int
  | [], v => (true, v)
  | a :: l, v => match f a v with | (false, v') => (false, v') | (true, v') => fewL f l v'
def fewF : Nat → TN → Int → Bool × Int
  | 0, _, v => (false, v)
  | k + 1, t, v => if v - 1 < 0 then (false, v - 1) else fewL (fewF k) t.f4 (v - 1)
theorem fewL_le {f : TN → Int → Bool × Int} (hf : ∀ t v, (f t v).2 ≤ v) : ∀ l v, (fewL f l v).2 ≤ v := by
  intro l
  induction l with
  | nil => intro v; exact Int.le_refl _
  | cons a l ih =>
    intro v
    unfold fewL
    have := hf a v
    cases e : f a v with
    | mk b v' =>
      rw [e] at this
      cases b with
      | false => exact this
      | true => exact Int.le_trans (ih v') this
theorem fewF_le : ∀ k t v, (fewF k t v).2 ≤ v := by
  intro k
  induction k with
  | zero => intro t v; exact Int.le_refl _
  | succ k ih =>
    intro t v
    unfold fewF
    by_cases h : v - 1 < 0
    · rw [if_pos h]; dsimp only; omega
    · rw [if_neg h]; have := fewL_le ih t.f4 (v - 1); omega
theorem fewL_ge {f : TN → Int → Bool × Int} (hf : ∀ t v, 0 ≤ v → -1 ≤ (f t v).2 ∧ ((f t v).1 = true → 0 ≤ (f t v).2)) : ∀ l v, 0 ≤ v → -1 ≤ (fewL f l v).2 ∧ ((fewL f l v).1 = true → 0 ≤ (fewL f l v).2) := by
  intro l
  induction l with
  | nil => intro v h; exact ⟨by show -1 ≤ v; omega, fun _ => h⟩
  | cons a l ih =>
    intro v hv
    unfold fewL
    have := hf a v hv
    cases e : f a v with
    | mk b v' =>
      rw [e] at this
      cases b with
      | false => exact this
      | true => exact ih v' (this.2 rfl)
theorem fewF_ge : ∀ k t v, 0 ≤ v → -1 ≤ (fewF k t v).2 ∧ ((fewF k t v).1 = true → 0 ≤ (fewF k t v).2) := by
  intro k
  induction k with
  | zero => intro t v h; exact ⟨by show -1 ≤ v; omega, fun h => by cases h⟩
  | succ k ih =>
    intro t v hv
    unfold fewF
    by_cases h : v - 1 < 0
    · rw [if_pos h]; exact ⟨by dsimp only; omega, fun h => by cases h⟩
    · rw [if_neg h]; exact fewL_ge ih t.f4 (v - 1) (by omega)
theorem V_elem {ok : Nat → Prop} {W : World} {A : Option Addr} {c : Nat} {l : List TN} (h : vN ok W (.slice A l.length c) l) (j : Nat) (hj : j < l.length) :
    ∃ ad A9 c9, A = some ad ∧ W.cell? (ad.add (j * 10)) = some (.int .i64 (l[j]).f0) ∧ W.cell? ⟨(ad.add (j * 10)).block, (ad.add (j * 10)).off + 1, none⟩ = some (.int .i64 (l[j]).f1.f0) ∧ W.cell? ⟨(ad.add (j * 10)).block, (ad.add (j * 10)).off + 2, none⟩ = some (.int .i64 (l[j]).f1.f1) ∧ W.cell? ⟨(ad.add (j * 10)).block, (ad.add (j * 10)).off + 3, none⟩ = some (.string (l[j]).f1.f2) ∧ W.cell? ⟨(ad.add (j * 10)).block, (ad.add (j * 10)).off + 4, none⟩ = some (.int .i64 (l[j]).f2.f0.f0) ∧ W.cell? ⟨(ad.add (j * 10)).block, (ad.add (j * 10)).off + 5, none⟩ = some (.int .i64 (l[j]).f2.f0.f1) ∧ W.cell? ⟨(ad.add (j * 10)).block, (ad.add (j * 10)).off + 6, none⟩ = some (.int .i64 (l[j]).f2.f1.f0) ∧ W.cell? ⟨(ad.add (j * 10)).block, (ad.add (j * 10)).off + 7, none⟩ = some (.int .i64 (l[j]).f2.f1.f1) ∧ W.cell? ⟨(ad.add (j * 10)).block, (ad.add (j * 10)).off + 8, none⟩ = some (.string (l[j]).f3) ∧ W.cell? ⟨(ad.add (j * 10)).block, (ad.add (j * 10)).off + 9, none⟩ = some (.slice A9 (l[j]).f4.length c9) ∧ vN ok W (.slice A9 (l[j]).f4.length c9) (l[j]).f4 := by
  have hC := (Kd.V_reads' h).2.2
  obtain ⟨ad, A9, c9, e, h0, h1, h2, h3, h4, h5, h6, h7, h8, h9, hl, hi⟩ := at_T31 hC (j : Int) (by omega) (by omega)
  have hr : rd_T31 l (j : Int) = l[j] := by unfold rd_T31; simp [List.getD_eq_getElem?_getD, hj]
  rw [hr, show ((j : Int)).toNat = j by omega] at h0 h1 h2 h3 h4 h5 h6 h7 h8 h9
  subst e
  obtain ⟨cs, hcl, hK, hcc⟩ := Kd.V_get h z31 (j : Int) (by omega) (by omega)
  rw [show l.getD ((j : Int)).toNat z31 = l[j] by simp [List.getD_eq_getElem?_getD, hj]] at hK
  obtain ⟨B9, d9, rfl, hl9, hF⟩ := k31_openF hK
  have h9' := hcc 9 _ rfl
  have e9 : ad.add (((j : Int)).toNat * k31.sz + 9) = ⟨(ad.add (j * 10)).block, (ad.add (j * 10)).off + 9, none⟩ := by
    rw [show ((j : Int)).toNat = j by omega]
    exact add_field _ _ 9 (by omega)
  rw [e9, h9] at h9'
  injection h9' with h9'
  injection h9' with ha hb hc
  subst ha; subst hc
  exact ⟨ad, A9, c9, rfl, h0, h1, h2, h3, h4, h5, h6, h7, h8, h9, Kd.V_mk hl9 hF⟩
theorem V_at {ok : Nat → Prop} {W : World} {A : Option Addr} {c : Nat} {l : List TN} (h : vN ok W (.slice A l.length c) l) (j : Nat) (x : TN) (hx : l[j]? = some x) :
    j < l.length ∧ ∃ ad A9 c9, A = some ad ∧ W.cell? (ad.add (j * 10)) = some (.int .i64 x.f0) ∧ W.cell? ⟨(ad.add (j * 10)).block, (ad.add (j * 10)).off + 1, none⟩ = some (.int .i64 x.f1.f0) ∧ W.cell? ⟨(ad.add (j * 10)).block, (ad.add (j * 10)).off + 2, none⟩ = some (.int .i64 x.f1.f1) ∧ W.cell? ⟨(ad.add (j * 10)).block, (ad.add (j * 10)).off + 3, none⟩ = some (.string x.f1.f2) ∧ W.cell? ⟨(ad.add (j * 10)).block, (ad.add (j * 10)).off + 4, none⟩ = some (.int .i64 x.f2.f0.f0) ∧ W.cell? ⟨(ad.add (j * 10)).block, (ad.add (j * 10)).off + 5, none⟩ = some (.int .i64 x.f2.f0.f1) ∧ W.cell? ⟨(ad.add (j * 10)).block, (ad.add (j * 10)).off + 6, none⟩ = some (.int .i64 x.f2.f1.f0) ∧ W.cell? ⟨(ad.add (j * 10)).block, (ad.add (j * 10)).off + 7, none⟩ = some (.int .i64 x.f2.f1.f1) ∧ W.cell? ⟨(ad.add (j * 10)).block, (ad.add (j * 10)).off + 8, none⟩ = some (.string x.f3) ∧ W.cell? ⟨(ad.add (j * 10)).block, (ad.add (j * 10)).off + 9, none⟩ = some (.slice A9 x.f4.length c9) ∧ vN ok W (.slice A9 x.f4.length c9) x.f4 := by
  obtain ⟨hj, rfl⟩ := List.getElem?_eq_some_iff.1 hx
  exact ⟨hj, V_elem h j hj⟩
theorem left_put {W : World} {b : Nat} {v : Int} (h : W.heap[b]? = some (.cells #[.int .i64 v] 3 (0, 0))) (u : Int) : (W.setCell ⟨b, 0, none⟩ (.int .i64 u)).heap[b]? = some (.cells #[.int .i64 u] 3 (0, 0)) := blk_put h 0 _ rfl
abbrev leftO (v : Int) : Obj := .cells #[.int .i64 v] 3 (0, 0)
def FewC (k : Nat) : Prop := ∀ (t : TN) (A : Option Addr) (c : Nat) (v : Int) (b : Nat) (ok : Nat → Prop) (W : World), vN ok W (.slice A t.f4.length c) t.f4 → (∀ j, ok j → j ≠ b) → W.heap[b]? = some (leftO v) → 0 ≤ v → v < k → v ≤ 2000 →
  Calls Tryz.prog 42 #[ndV t (.slice A t.f4.length c), ptr b] W fun e W' => e = .returned (.bool (fewF k t v).1) ∧ W'.heap[b]? = some (leftO (fewF k t v).2) ∧ Bu b W W'
theorem FewC.go {k : Nat} (h : FewC k) (t : TN) (A : Option Addr) (c : Nat) (v : Int) (b : Nat) (ok : Nat → Prop) (W : World) (h1 : vN ok W (.slice A t.f4.length c) t.f4) (h2 : ∀ j, ok j → j ≠ b) (h3 : W.heap[b]? = some (leftO v)) (h4 : 0 ≤ v) (h5 : v < k) (h6 : v ≤ 2000) (r : Bool) (v' : Int) (hr : fewF k t v = (r, v')) :
    Calls Tryz.prog 42 #[ndV t (.slice A t.f4.length c), ptr b] W fun e W' => e = .returned (.bool r) ∧ W'.heap[b]? = some (leftO v') ∧ Bu b W W' := by
  have := h t A c v b ok W h1 h2 h3 h4 h5 h6
  rw [hr] at this
  exact this
def FewS (k : Nat) (t : TN) (A : Option Addr) (c : Nat) (b : Nat) (ok : Nat → Prop) (W : World) (r : Bool) (z : Int) (i : Value) (wr : World) : Prop :=
  ∃ (j : Nat) (v : Int), i = .int .i64 (j : Int) ∧ j ≤ t.f4.length ∧ fewL (fewF k) (t.f4.drop j) v = (r, z) ∧ 0 ≤ v ∧ v < k ∧ v ≤ 2000 ∧ wr.heap[b]? = some (leftO v) ∧ Bu b W wr ∧ vN ok wr (.slice A t.f4.length c) t.f4
set_option maxHeartbeats 1000000 in
set_option maxRecDepth 100000 in
theorem few_all : ∀ k, FewC k := by
  intro k
  induction k with
  | zero => intro t A c v b ok W h1 h2 h3 h4 h5; omega
  | succ k ih =>
    intro t A c v b ok W hV hok hb h0 hk h2
    have HV := Lib.hid hV
    have HB := Lib.hid hb
    have hlb := blk_lt hb
    have HK := Lib.hid hk
    have HOK := Lib.hid hok
    have HI := Lib.hid ih
    have cb : W.cell? ⟨b, 0, none⟩ = some (.int .i64 v) := (blk_cell hb 0).trans rfl
    have zb := blk_frozen hb 0
    have w1 : IntKind.i64.wrap (v - 1) = v - 1 := by rw [i64_w, M.wrap64_id (by unfold I64; omega)]
    have hne : (b = W.heap.size) = False := eq_false (by omega)
    have hne2 : (W.heap.size = b) = False := eq_false (by omega)
    by_cases hz : v - 1 < 0
    · have e : fewF (k + 1) t v = (false, v - 1) := by unfold fewF; rw [if_pos hz]
      have hq : decide (v - 1 < 0) = true := decide_eq_true hz
      have hq2 : decide (v < 1) = true := decide_eq_true (by omega)
      rw [e]
      clear hV hok hb ih e hk
      go_enter Tryz.func42, Tryz.ntmps42
      go_wp2
      go_ret
      exact ⟨rfl, blk_alloc (left_put HB.out _) _, (Bu.set b W 0 _).to_alloc _⟩
    · obtain ⟨r, z, e⟩ : ∃ r z, fewL (fewF k) t.f4 (v - 1) = (r, z) := ⟨_, _, rfl⟩
      have e' : fewF (k + 1) t v = (r, z) := by unfold fewF; rw [if_neg hz]; exact e
      have hq : decide (v - 1 < 0) = false := decide_eq_false hz
      have hq2 : decide (v < 1) = false := decide_eq_false (by omega)
      rw [e']
      have HE := Lib.hid e
      clear hV hok hb ih e e' hk
      go_enter Tryz.func42, Tryz.ntmps42
      go_wp2
      go_loopw [19] (FewS k t A c b ok W r z) (fun i _ => t.f4.length - (intOf i).toNat)
      case atStart => exact ⟨0, v - 1, rfl, Nat.zero_le _, HE.out, by omega, by have := HK.out; omega, by omega, blk_alloc (left_put HB.out _) _, (Bu.set b W 0 _).to_alloc _, Kd.V_alloc (vN.bu HV.out (Bu.set b W 0 _) HOK.out) _⟩
      case round =>
        obtain ⟨j, v', rfl, hj, hF, g0, gk, g2, hb', hbu, hv⟩ := hrel
        clear cb zb w1 hne hne2 hz hq hq2 HE h0 h2 HK HB HV
        have HB' := Lib.hid hb'
        have HBU := Lib.hid hbu
        have HV' := Lib.hid hv
        have hlb' := blk_lt hb'
        by_cases hlt : j < t.f4.length
        · obtain ⟨x, hx⟩ : ∃ x, t.f4[j]? = some x := ⟨_, List.getElem?_eq_getElem hlt⟩
          obtain ⟨-, ad, A9, c9, rfl, e0, e1, e2, e3, e4, e5, e6, e7, e8, e9, hv9⟩ := V_at hv j x hx
          have HV9 := Lib.hid hv9
          have hd : t.f4.drop j = x :: t.f4.drop (j + 1) := by
            obtain ⟨h1, h2⟩ := List.getElem?_eq_some_iff.1 hx
            rw [List.drop_eq_getElem_cons h1, h2]
          rw [hd, fewL] at hF
          have hq1 : ((0 : Int) ≤ (j : Int)) = True := eq_true (by omega)
          have hq2 : ((j : Int) < (t.f4.length : Int)) = True := eq_true (by omega)
          have hq3 : decide ((j : Int) < (t.f4.length : Int)) = true := decide_eq_true (by omega)
          have hlen := (Kd.V_reads' hv).2.2.2.1
          have G0 := Lib.hid g0
          have GK := Lib.hid gk
          have G2 := Lib.hid g2
          obtain ⟨r1, v1, hf⟩ : ∃ r1 v1, fewF k x v' = (r1, v1) := ⟨_, _, rfl⟩
          have hge := fewF_ge k x v' g0
          have hle := fewF_le k x v'
          rw [hf] at hF hge hle
          have HF := Lib.hid hf
          have HGE := Lib.hid hge
          have HLE := Lib.hid hle
          have HHF := Lib.hid hF
          clear hx hv9 hd hf hge hle hF hb' hbu hv g0 gk g2
          cases r1 with
          | false =>
            go_wp2_with (first | (go_at_call 42; (with_reducible refine (HI.out.go x A9 c9 v' b ok _ ?sv HOK.out ?sb G0.out GK.out G2.out _ _ HF.out).mono ?_); (case sv => exact Kd.V_alloc HV9.out _); (case sb => exact blk_alloc HB'.out _); rintro e w2 ⟨rfl, hb2, hbu2⟩; have HB2 := Lib.hid hb2; have HBU2 := Lib.hid (Bu.trans (HBU.out.to_alloc _) hbu2); clear hb2 hbu2))
            have hh := HHF.out
            simp only [Prod.mk.injEq] at hh
            obtain ⟨rfl, rfl⟩ := hh
            go_ret
            exact ⟨rfl, HB2.out, HBU2.out⟩
          | true =>
            go_wp2_with (first | (go_at_call 42; (with_reducible refine (HI.out.go x A9 c9 v' b ok _ ?sv HOK.out ?sb G0.out GK.out G2.out _ _ HF.out).mono ?_); (case sv => exact Kd.V_alloc HV9.out _); (case sb => exact blk_alloc HB'.out _); rintro e w2 ⟨rfl, hb2, hbu2⟩; have HB2 := Lib.hid hb2; have HV2 := Lib.hid (vN.bu (Kd.V_alloc HV'.out _) hbu2 HOK.out); have HBU2 := Lib.hid (Bu.trans (HBU.out.to_alloc _) hbu2); clear hb2 hbu2))
            go_roundw
            case rel => exact ⟨j + 1, v1, by go_num, by omega, HHF.out, (by first | exact HGE.out.2 rfl | exact HGE.out.2 trivial), (by have h1 : v1 ≤ v' := HLE.out; have h2 := GK.out; omega), (by have h1 : v1 ≤ v' := HLE.out; have h2 := G2.out; omega), HB2.out, HBU2.out, HV2.out⟩
            case measure => simp [intOf]; omega
        · have hjl : j = t.f4.length := by omega
          subst hjl
          rw [List.drop_length, fewL] at hF
          have hq3 : decide ((t.f4.length : Int) < (t.f4.length : Int)) = false := decide_eq_false (by omega)
          have HHF := Lib.hid hF
          clear hF hb' hbu hv
          go_wp2
          have hh := HHF.out
          simp only [Prod.mk.injEq] at hh
          obtain ⟨rfl, rfl⟩ := hh
          go_ret
          exact ⟨rfl, HB'.out, HBU.out⟩
theorem blk_at' (W : World) (o : Obj) (n : Nat) (h : n = W.heap.size) : (W.alloc o).heap[n]? = some o := by subst h; exact blk_new W o
theorem blk_below_old {W : World} {o o' : Obj} {k : Nat} (hk : k < W.heap.size) : ((W.alloc o).alloc o').heap[k]? = W.heap[k]? := by
  rw [blk_alloc_old _ _ (by simp; omega), blk_alloc_old _ _ hk]
def smallB (t : TN) : Bool := (fewF 2001 t 2000).1
set_option maxHeartbeats 1000000 in
set_option maxRecDepth 100000 in
theorem small_calls (t : TN) (A : Option Addr) (c : Nat) (W : World) (hC : Kd.C k31 W A t.f4.length t.f4) (hc : t.f4.length ≤ c) :
    Calls Tryz.prog 24 #[ndV t (.slice A t.f4.length c)] W fun e W' => e = .returned (.bool (smallB t)) ∧ Below W.heap.size W W' := by
  have HV := Lib.hid (show vN (fun k => k < W.heap.size) W (.slice A t.f4.length c) t.f4 from Kd.V_mk hc (Kd.C_F nd_heap hC))
  obtain ⟨r, z, e⟩ : ∃ r z, fewF 2001 t 2000 = (r, z) := ⟨_, _, rfl⟩
  have es : smallB t = r := by unfold smallB; rw [e]
  rw [es]
  have HE := Lib.hid e
  clear hC hc e es
  go_enter Tryz.func24, Tryz.ntmps24
  go_wp2_with (first | (go_at_call 42; (with_reducible refine ((few_all 2001).go t A c 2000 (W.heap.size + 1) (fun k => k < W.heap.size) _ ?sv ?so ?sb (by decide) (by decide) (by decide) _ _ HE.out).mono ?_); (case sv => exact Kd.V_alloc (Kd.V_alloc HV.out _) _); (case so => exact (fun k hk => by omega)); (case sb => exact blk_at' _ _ _ (by simp)); rintro e w2 ⟨rfl, hb2, hbu2⟩; have HBU := Lib.hid hbu2; clear hb2 hbu2))
  go_ret
  refine ⟨rfl, ?_⟩
  have h := HBU.out
  exact ⟨h.os, h.tape, h.output, Nat.le_trans (by simp; omega) h.size, fun k hk => (h.block k (by simp; omega) (by omega)).trans (blk_below_old hk)⟩
end Go.Proofs.YtnomfbmebafolaaGreatDoor.P

namespace Go.Proofs.YtnomfbmebafolaaGreatDoor.P
open Go.RowKit Go.Proofs.YtnomfbmebafolaaGreatDoorW.PrintWords Go.Proofs.YtnomfbmebafolaaGreatDoorW.PrintLast Go.Proofs.YtnomfbmebafolaaGreatDoorW.PrintMore
attribute [local go_sem] max2_int min2_int max_two min_two max_three min_three max_four min_four   -- for this text's walks alone
set_option linter.unusedVariables false
set_option linter.unusedSimpArgs false
def value_Good.f (a0_0 : Int) (a0_1 : Int) (a0_2 : ByteArray) : Option (Bool) := if a0_0 = 0 then (if a0_1 = 0 then (some (a0_2.toList == ([] : List UInt8))) else (some false)) else (if a0_0 = 1 then (if a0_1 = 0 then (some (a0_2.toList == ([] : List UInt8))) else (if a0_1 = 1 then (some (a0_2.toList == ([] : List UInt8))) else (some false))) else (if a0_0 = 2 then (some (a0_2.toList == ([] : List UInt8))) else (if a0_0 = 3 then (if a0_1 = 0 then (some (decide ((a0_2.size : Int) ≤ 200))) else (some false)) else (if a0_0 = 4 then (if a0_1 ≥ 1 then (if a0_1 ≤ 8 then (some (a0_2.toList == ([] : List UInt8))) else (some false)) else (some false)) else (some false)))))
set_option maxHeartbeats 8000000 in
set_option maxRecDepth 100000 in
theorem value_Good.calls (a0_0 : Int) (a0_1 : Int) (a0_2 : ByteArray) (r : Bool) (w : World) (h : value_Good.f a0_0 a0_1 a0_2 = some r) :
    Calls Tryz.prog 19 #[.agg #[.int .i64 a0_0, .int .i64 a0_1, .string a0_2]] w fun e w' => e = .returned (.bool r) ∧ Below w.heap.size w w' := by
  have hu24 := Tryz.underlying24
  have HB := Aside0.mk (Below.refl w.heap.size w)
  have H : (if a0_0 = 0 then (if a0_1 = 0 then (some (a0_2.toList == ([] : List UInt8))) else (some false)) else (if a0_0 = 1 then (if a0_1 = 0 then (some (a0_2.toList == ([] : List UInt8))) else (if a0_1 = 1 then (some (a0_2.toList == ([] : List UInt8))) else (some false))) else (if a0_0 = 2 then (some (a0_2.toList == ([] : List UInt8))) else (if a0_0 = 3 then (if a0_1 = 0 then (some (decide ((a0_2.size : Int) ≤ 200))) else (some false)) else (if a0_0 = 4 then (if a0_1 ≥ 1 then (if a0_1 ≤ 8 then (some (a0_2.toList == ([] : List UInt8))) else (some false)) else (some false)) else (some false)))))) = some r := h
  clear h
  by_cases c2 : a0_0 = 0
  · rw [if_pos c2] at H
    have c2b0 : (a0_0 == 0) = true := beq_iff_eq.mpr c2
    have c2b1 : (a0_0 != 0) = false := bne_eq_false_iff_eq.mpr c2
    clear c2
    by_cases c3 : a0_1 = 0
    · rw [if_pos c3] at H
      have c3b0 : (a0_1 == 0) = true := beq_iff_eq.mpr c3
      have c3b1 : (a0_1 != 0) = false := bne_eq_false_iff_eq.mpr c3
      clear c3
      obtain rfl := Option.some.inj H
      go_enter Tryz.func19, Tryz.ntmps19
      go_wp2_with (first | ((with_reducible refine gate_dst (N := 1) rfl ?_); (try (refine gate_guard (by rfl) ?_; dsimp only)); refine box_event ?hg (N := 1) ?hd (cs := #[.int .i64 a0_0, .int .i64 a0_1, .string a0_2]) (t := 24) ?hr ?_; (case hd => rfl); (case hg => rfl); (case hr => first | (go_simp; done) | (go_simp; rfl)); intro gb123 hg w4 hbox hb; have n0_ := Aside0.mk (below_step zz1 hb); have n1_ := Aside0.mk (hbox); have n2_ := Aside0.mk ((by rw [hg]; exact (below_size zz1) : w.heap.size ≤ gb123)); have n3_ := n2_; clear HB; have HB := n0_; have BK123 := n1_; have GW123 := n2_; have GE123 := n3_; clear n0_ n1_ n2_ n3_; clear hb hbox hg; obtain ⟨_, _, _, _, _, _⟩ := zC3 BK123.out))
      go_ret
      exact ⟨zz26, zz5⟩
    · rw [if_neg c3] at H
      have c3b0 : (a0_1 == 0) = false := beq_eq_false_iff_ne.mpr c3
      have c3b1 : (a0_1 != 0) = true := bne_iff_ne.mpr c3
      obtain rfl := Option.some.inj H
      go_enter Tryz.func19, Tryz.ntmps19
      go_wp2_with (first | ((with_reducible refine gate_dst (N := 1) rfl ?_); (try (refine gate_guard (by rfl) ?_; dsimp only)); refine box_event ?hg (N := 1) ?hd (cs := #[.int .i64 a0_0, .int .i64 a0_1, .string a0_2]) (t := 24) ?hr ?_; (case hd => rfl); (case hg => rfl); (case hr => first | (go_simp; done) | (go_simp; rfl)); intro gb123 hg w6 hbox hb; have n0_ := Aside0.mk (below_step zz1 hb); have n1_ := Aside0.mk (hbox); have n2_ := Aside0.mk ((by rw [hg]; exact (below_size zz1) : w.heap.size ≤ gb123)); have n3_ := n2_; clear HB; have HB := n0_; have BK123 := n1_; have GW123 := n2_; have GE123 := n3_; clear n0_ n1_ n2_ n3_; clear hb hbox hg; obtain ⟨_, _, _, _, _, _⟩ := zC3 BK123.out))
      go_ret
      exact ⟨zz26, zz5⟩
  · rw [if_neg c2] at H
    have c2b0 : (a0_0 == 0) = false := beq_eq_false_iff_ne.mpr c2
    have c2b1 : (a0_0 != 0) = true := bne_iff_ne.mpr c2
    by_cases c8 : a0_0 = 1
    · rw [if_pos c8] at H
      have c8b0 : (a0_0 == 1) = true := beq_iff_eq.mpr c8
      have c8b1 : (a0_0 != 1) = false := bne_eq_false_iff_eq.mpr c8
      clear c8
      by_cases c9 : a0_1 = 0
      · rw [if_pos c9] at H
        have c9b0 : (a0_1 == 0) = true := beq_iff_eq.mpr c9
        have c9b1 : (a0_1 != 0) = false := bne_eq_false_iff_eq.mpr c9
        clear c9
        obtain rfl := Option.some.inj H
        go_enter Tryz.func19, Tryz.ntmps19
        go_wp2_with (first | ((with_reducible refine gate_dst (N := 1) rfl ?_); (try (refine gate_guard (by rfl) ?_; dsimp only)); refine box_event ?hg (N := 1) ?hd (cs := #[.int .i64 a0_0, .int .i64 a0_1, .string a0_2]) (t := 24) ?hr ?_; (case hd => rfl); (case hg => rfl); (case hr => first | (go_simp; done) | (go_simp; rfl)); intro gb123 hg w10 hbox hb; have n0_ := Aside0.mk (below_step zz1 hb); have n1_ := Aside0.mk (hbox); have n2_ := Aside0.mk ((by rw [hg]; exact (below_size zz1) : w.heap.size ≤ gb123)); have n3_ := n2_; clear HB; have HB := n0_; have BK123 := n1_; have GW123 := n2_; have GE123 := n3_; clear n0_ n1_ n2_ n3_; clear hb hbox hg; obtain ⟨_, _, _, _, _, _⟩ := zC3 BK123.out))
        go_ret
        exact ⟨zz26, zz5⟩
      · rw [if_neg c9] at H
        have c9b0 : (a0_1 == 0) = false := beq_eq_false_iff_ne.mpr c9
        have c9b1 : (a0_1 != 0) = true := bne_iff_ne.mpr c9
        by_cases c12 : a0_1 = 1
        · rw [if_pos c12] at H
          have c12b0 : (a0_1 == 1) = true := beq_iff_eq.mpr c12
          have c12b1 : (a0_1 != 1) = false := bne_eq_false_iff_eq.mpr c12
          clear c12
          obtain rfl := Option.some.inj H
          go_enter Tryz.func19, Tryz.ntmps19
          go_wp2_with (first | ((with_reducible refine gate_dst (N := 1) rfl ?_); (try (refine gate_guard (by rfl) ?_; dsimp only)); refine box_event ?hg (N := 1) ?hd (cs := #[.int .i64 a0_0, .int .i64 a0_1, .string a0_2]) (t := 24) ?hr ?_; (case hd => rfl); (case hg => rfl); (case hr => first | (go_simp; done) | (go_simp; rfl)); intro gb123 hg w13 hbox hb; have n0_ := Aside0.mk (below_step zz1 hb); have n1_ := Aside0.mk (hbox); have n2_ := Aside0.mk ((by rw [hg]; exact (below_size zz1) : w.heap.size ≤ gb123)); have n3_ := n2_; clear HB; have HB := n0_; have BK123 := n1_; have GW123 := n2_; have GE123 := n3_; clear n0_ n1_ n2_ n3_; clear hb hbox hg; obtain ⟨_, _, _, _, _, _⟩ := zC3 BK123.out))
          go_ret
          exact ⟨zz26, zz5⟩
        · rw [if_neg c12] at H
          have c12b0 : (a0_1 == 1) = false := beq_eq_false_iff_ne.mpr c12
          have c12b1 : (a0_1 != 1) = true := bne_iff_ne.mpr c12
          obtain rfl := Option.some.inj H
          go_enter Tryz.func19, Tryz.ntmps19
          go_wp2_with (first | ((with_reducible refine gate_dst (N := 1) rfl ?_); (try (refine gate_guard (by rfl) ?_; dsimp only)); refine box_event ?hg (N := 1) ?hd (cs := #[.int .i64 a0_0, .int .i64 a0_1, .string a0_2]) (t := 24) ?hr ?_; (case hd => rfl); (case hg => rfl); (case hr => first | (go_simp; done) | (go_simp; rfl)); intro gb123 hg w15 hbox hb; have n0_ := Aside0.mk (below_step zz1 hb); have n1_ := Aside0.mk (hbox); have n2_ := Aside0.mk ((by rw [hg]; exact (below_size zz1) : w.heap.size ≤ gb123)); have n3_ := n2_; clear HB; have HB := n0_; have BK123 := n1_; have GW123 := n2_; have GE123 := n3_; clear n0_ n1_ n2_ n3_; clear hb hbox hg; obtain ⟨_, _, _, _, _, _⟩ := zC3 BK123.out))
          go_ret
          exact ⟨zz26, zz5⟩
    · rw [if_neg c8] at H
      have c8b0 : (a0_0 == 1) = false := beq_eq_false_iff_ne.mpr c8
      have c8b1 : (a0_0 != 1) = true := bne_iff_ne.mpr c8
      by_cases c17 : a0_0 = 2
      · rw [if_pos c17] at H
        have c17b0 : (a0_0 == 2) = true := beq_iff_eq.mpr c17
        have c17b1 : (a0_0 != 2) = false := bne_eq_false_iff_eq.mpr c17
        clear c17
        obtain rfl := Option.some.inj H
        go_enter Tryz.func19, Tryz.ntmps19
        go_wp2_with (first | ((with_reducible refine gate_dst (N := 1) rfl ?_); (try (refine gate_guard (by rfl) ?_; dsimp only)); refine box_event ?hg (N := 1) ?hd (cs := #[.int .i64 a0_0, .int .i64 a0_1, .string a0_2]) (t := 24) ?hr ?_; (case hd => rfl); (case hg => rfl); (case hr => first | (go_simp; done) | (go_simp; rfl)); intro gb123 hg w18 hbox hb; have n0_ := Aside0.mk (below_step zz1 hb); have n1_ := Aside0.mk (hbox); have n2_ := Aside0.mk ((by rw [hg]; exact (below_size zz1) : w.heap.size ≤ gb123)); have n3_ := n2_; clear HB; have HB := n0_; have BK123 := n1_; have GW123 := n2_; have GE123 := n3_; clear n0_ n1_ n2_ n3_; clear hb hbox hg; obtain ⟨_, _, _, _, _, _⟩ := zC3 BK123.out))
        go_ret
        exact ⟨zz26, zz5⟩
      · rw [if_neg c17] at H
        have c17b0 : (a0_0 == 2) = false := beq_eq_false_iff_ne.mpr c17
        have c17b1 : (a0_0 != 2) = true := bne_iff_ne.mpr c17
        by_cases c20 : a0_0 = 3
        · rw [if_pos c20] at H
          have c20b0 : (a0_0 == 3) = true := beq_iff_eq.mpr c20
          have c20b1 : (a0_0 != 3) = false := bne_eq_false_iff_eq.mpr c20
          clear c20
          by_cases c21 : a0_1 = 0
          · rw [if_pos c21] at H
            have c21b0 : (a0_1 == 0) = true := beq_iff_eq.mpr c21
            have c21b1 : (a0_1 != 0) = false := bne_eq_false_iff_eq.mpr c21
            clear c21
            obtain rfl := Option.some.inj H
            go_enter Tryz.func19, Tryz.ntmps19
            go_wp2_with (first | ((with_reducible refine gate_dst (N := 1) rfl ?_); (try (refine gate_guard (by rfl) ?_; dsimp only)); refine box_event ?hg (N := 1) ?hd (cs := #[.int .i64 a0_0, .int .i64 a0_1, .string a0_2]) (t := 24) ?hr ?_; (case hd => rfl); (case hg => rfl); (case hr => first | (go_simp; done) | (go_simp; rfl)); intro gb123 hg w22 hbox hb; have n0_ := Aside0.mk (below_step zz1 hb); have n1_ := Aside0.mk (hbox); have n2_ := Aside0.mk ((by rw [hg]; exact (below_size zz1) : w.heap.size ≤ gb123)); have n3_ := n2_; clear HB; have HB := n0_; have BK123 := n1_; have GW123 := n2_; have GE123 := n3_; clear n0_ n1_ n2_ n3_; clear hb hbox hg; obtain ⟨_, _, _, _, _, _⟩ := zC3 BK123.out))
            go_ret
            exact ⟨zz26, zz5⟩
          · rw [if_neg c21] at H
            have c21b0 : (a0_1 == 0) = false := beq_eq_false_iff_ne.mpr c21
            have c21b1 : (a0_1 != 0) = true := bne_iff_ne.mpr c21
            obtain rfl := Option.some.inj H
            go_enter Tryz.func19, Tryz.ntmps19
            go_wp2_with (first | ((with_reducible refine gate_dst (N := 1) rfl ?_); (try (refine gate_guard (by rfl) ?_; dsimp only)); refine box_event ?hg (N := 1) ?hd (cs := #[.int .i64 a0_0, .int .i64 a0_1, .string a0_2]) (t := 24) ?hr ?_; (case hd => rfl); (case hg => rfl); (case hr => first | (go_simp; done) | (go_simp; rfl)); intro gb123 hg w24 hbox hb; have n0_ := Aside0.mk (below_step zz1 hb); have n1_ := Aside0.mk (hbox); have n2_ := Aside0.mk ((by rw [hg]; exact (below_size zz1) : w.heap.size ≤ gb123)); have n3_ := n2_; clear HB; have HB := n0_; have BK123 := n1_; have GW123 := n2_; have GE123 := n3_; clear n0_ n1_ n2_ n3_; clear hb hbox hg; obtain ⟨_, _, _, _, _, _⟩ := zC3 BK123.out))
            go_ret
            exact ⟨zz26, zz5⟩
        · rw [if_neg c20] at H
          have c20b0 : (a0_0 == 3) = false := beq_eq_false_iff_ne.mpr c20
          have c20b1 : (a0_0 != 3) = true := bne_iff_ne.mpr c20
          by_cases c26 : a0_0 = 4
          · rw [if_pos c26] at H
            have c26b0 : (a0_0 == 4) = true := beq_iff_eq.mpr c26
            have c26b1 : (a0_0 != 4) = false := bne_eq_false_iff_eq.mpr c26
            clear c26
            by_cases c27 : a0_1 ≥ 1
            · rw [if_pos c27] at H
              have c27b0 : decide (1 ≤ a0_1) = true := decide_eq_true c27
              clear c27
              by_cases c28 : a0_1 ≤ 8
              · rw [if_pos c28] at H
                have c28b0 : decide (a0_1 ≤ 8) = true := decide_eq_true c28
                clear c28
                obtain rfl := Option.some.inj H
                go_enter Tryz.func19, Tryz.ntmps19
                go_wp2_with (first | ((with_reducible refine gate_dst (N := 1) rfl ?_); (try (refine gate_guard (by rfl) ?_; dsimp only)); refine box_event ?hg (N := 1) ?hd (cs := #[.int .i64 a0_0, .int .i64 a0_1, .string a0_2]) (t := 24) ?hr ?_; (case hd => rfl); (case hg => rfl); (case hr => first | (go_simp; done) | (go_simp; rfl)); intro gb123 hg w29 hbox hb; have n0_ := Aside0.mk (below_step zz1 hb); have n1_ := Aside0.mk (hbox); have n2_ := Aside0.mk ((by rw [hg]; exact (below_size zz1) : w.heap.size ≤ gb123)); have n3_ := n2_; clear HB; have HB := n0_; have BK123 := n1_; have GW123 := n2_; have GE123 := n3_; clear n0_ n1_ n2_ n3_; clear hb hbox hg; obtain ⟨_, _, _, _, _, _⟩ := zC3 BK123.out))
                go_ret
                exact ⟨zz26, zz5⟩
              · rw [if_neg c28] at H
                have c28b0 : decide (a0_1 ≤ 8) = false := decide_eq_false c28
                clear c28
                obtain rfl := Option.some.inj H
                go_enter Tryz.func19, Tryz.ntmps19
                go_wp2_with (first | ((with_reducible refine gate_dst (N := 1) rfl ?_); (try (refine gate_guard (by rfl) ?_; dsimp only)); refine box_event ?hg (N := 1) ?hd (cs := #[.int .i64 a0_0, .int .i64 a0_1, .string a0_2]) (t := 24) ?hr ?_; (case hd => rfl); (case hg => rfl); (case hr => first | (go_simp; done) | (go_simp; rfl)); intro gb123 hg w31 hbox hb; have n0_ := Aside0.mk (below_step zz1 hb); have n1_ := Aside0.mk (hbox); have n2_ := Aside0.mk ((by rw [hg]; exact (below_size zz1) : w.heap.size ≤ gb123)); have n3_ := n2_; clear HB; have HB := n0_; have BK123 := n1_; have GW123 := n2_; have GE123 := n3_; clear n0_ n1_ n2_ n3_; clear hb hbox hg; obtain ⟨_, _, _, _, _, _⟩ := zC3 BK123.out))
                go_ret
                exact ⟨zz26, zz5⟩
            · rw [if_neg c27] at H
              have c27b0 : decide (1 ≤ a0_1) = false := decide_eq_false c27
              clear c27
              obtain rfl := Option.some.inj H
              go_enter Tryz.func19, Tryz.ntmps19
              go_wp2_with (first | ((with_reducible refine gate_dst (N := 1) rfl ?_); (try (refine gate_guard (by rfl) ?_; dsimp only)); refine box_event ?hg (N := 1) ?hd (cs := #[.int .i64 a0_0, .int .i64 a0_1, .string a0_2]) (t := 24) ?hr ?_; (case hd => rfl); (case hg => rfl); (case hr => first | (go_simp; done) | (go_simp; rfl)); intro gb123 hg w33 hbox hb; have n0_ := Aside0.mk (below_step zz1 hb); have n1_ := Aside0.mk (hbox); have n2_ := Aside0.mk ((by rw [hg]; exact (below_size zz1) : w.heap.size ≤ gb123)); have n3_ := n2_; clear HB; have HB := n0_; have BK123 := n1_; have GW123 := n2_; have GE123 := n3_; clear n0_ n1_ n2_ n3_; clear hb hbox hg; obtain ⟨_, _, _, _, _, _⟩ := zC3 BK123.out))
              go_ret
              exact ⟨zz26, zz5⟩
          · rw [if_neg c26] at H
            have c26b0 : (a0_0 == 4) = false := beq_eq_false_iff_ne.mpr c26
            have c26b1 : (a0_0 != 4) = true := bne_iff_ne.mpr c26
            obtain rfl := Option.some.inj H
            go_enter Tryz.func19, Tryz.ntmps19
            go_wp2_with (first | ((with_reducible refine gate_dst (N := 1) rfl ?_); (try (refine gate_guard (by rfl) ?_; dsimp only)); refine box_event ?hg (N := 1) ?hd (cs := #[.int .i64 a0_0, .int .i64 a0_1, .string a0_2]) (t := 24) ?hr ?_; (case hd => rfl); (case hg => rfl); (case hr => first | (go_simp; done) | (go_simp; rfl)); intro gb123 hg w35 hbox hb; have n0_ := Aside0.mk (below_step zz1 hb); have n1_ := Aside0.mk (hbox); have n2_ := Aside0.mk ((by rw [hg]; exact (below_size zz1) : w.heap.size ≤ gb123)); have n3_ := n2_; clear HB; have HB := n0_; have BK123 := n1_; have GW123 := n2_; have GE123 := n3_; clear n0_ n1_ n2_ n3_; clear hb hbox hg; obtain ⟨_, _, _, _, _, _⟩ := zC3 BK123.out))
            go_ret
            exact ⟨zz26, zz5⟩
end Go.Proofs.YtnomfbmebafolaaGreatDoor.P

namespace Go.Proofs.YtnomfbmebafolaaGreatDoor.P
open Go.RowKit Go.Proofs.YtnomfbmebafolaaGreatDoorW.PrintWords Go.Proofs.YtnomfbmebafolaaGreatDoorW.PrintLast Go.Proofs.YtnomfbmebafolaaGreatDoorW.PrintMore
attribute [local go_sem] max2_int min2_int max_two min_two max_three min_three max_four min_four   -- for this text's walks alone
set_option linter.unusedVariables false
set_option linter.unusedSimpArgs false
def value_Same.f (a0_0 : Int) (a0_1 : Int) (a0_2 : ByteArray) (a1_0 : Int) (a1_1 : Int) (a1_2 : ByteArray) : Option (Bool) := if a0_0 = a1_0 then (if a0_1 = a1_1 then (some (a0_2.toList == a1_2.toList)) else (some false)) else (some false)
set_option maxHeartbeats 8000000 in
set_option maxRecDepth 100000 in
theorem value_Same.calls (a0_0 : Int) (a0_1 : Int) (a0_2 : ByteArray) (a1_0 : Int) (a1_1 : Int) (a1_2 : ByteArray) (r : Bool) (w : World) (h : value_Same.f a0_0 a0_1 a0_2 a1_0 a1_1 a1_2 = some r) :
    Calls Tryz.prog 17 #[.agg #[.int .i64 a0_0, .int .i64 a0_1, .string a0_2], .agg #[.int .i64 a1_0, .int .i64 a1_1, .string a1_2]] w fun e w' => e = .returned (.bool r) ∧ Below w.heap.size w w' := by
  have hu24 := Tryz.underlying24
  have HB := Aside0.mk (Below.refl w.heap.size w)
  have H : (if a0_0 = a1_0 then (if a0_1 = a1_1 then (some (a0_2.toList == a1_2.toList)) else (some false)) else (some false)) = some r := h
  clear h
  by_cases c3 : a0_0 = a1_0
  · rw [if_pos c3] at H
    have c3b0 : (a0_0 == a1_0) = true := beq_iff_eq.mpr c3
    have c3b1 : (a0_0 != a1_0) = false := bne_eq_false_iff_eq.mpr c3
    clear c3
    by_cases c4 : a0_1 = a1_1
    · rw [if_pos c4] at H
      have c4b0 : (a0_1 == a1_1) = true := beq_iff_eq.mpr c4
      have c4b1 : (a0_1 != a1_1) = false := bne_eq_false_iff_eq.mpr c4
      clear c4
      obtain rfl := Option.some.inj H
      go_enter Tryz.func17, Tryz.ntmps17
      go_wp2_with (first | ((with_reducible refine gate_dst (N := 2) rfl ?_); refine box_event ?hg (N := 2) ?hd (cs := #[.int .i64 a0_0, .int .i64 a0_1, .string a0_2]) (t := 24) ?hr ?_; (case hd => rfl); (case hg => rfl); (case hr => first | (go_simp; done) | (go_simp; rfl)); intro gb124 hg w5 hbox hb; have n0_ := Aside0.mk (below_step zz1 hb); have n1_ := Aside0.mk (hbox); have n2_ := Aside0.mk ((by rw [hg]; exact (below_size zz1) : w.heap.size ≤ gb124)); have n3_ := n2_; clear HB; have HB := n0_; have BK124 := n1_; have GW124 := n2_; have GE124 := n3_; clear n0_ n1_ n2_ n3_; clear hb hbox hg) | ((with_reducible refine gate_dst (N := 3) rfl ?_); refine box_event ?hg (N := 3) ?hd (cs := #[.int .i64 a1_0, .int .i64 a1_1, .string a1_2]) (t := 24) ?hr ?_; (case hd => rfl); (case hg => rfl); (case hr => first | (go_simp; done) | (go_simp; rfl)); intro gb125 hg w6 hbox hb; have n0_ := Aside0.mk (blk_below (g := gb124) (o := .cells #[.int .i64 a0_0, .int .i64 a0_1, .string a0_2] 24 (0, 0)) (zB BK124.out) hb); have n1_ := Aside0.mk (below_step zz14 hb); have n2_ := Aside0.mk (hbox); have n3_ := Aside0.mk ((by rw [hg]; exact (below_size zz14) : w.heap.size ≤ gb125)); have n4_ := n3_; have n5_ := Aside0.mk ((by rw [hg]; exact Nat.ne_of_lt (blk_lt (g := gb124) (o := .cells #[.int .i64 a0_0, .int .i64 a0_1, .string a0_2] 24 (0, 0)) (zB BK124.out)) : gb124 ≠ gb125)); have n6_ := Aside0.mk ((by rw [hg]; exact Nat.ne_of_gt (blk_lt (g := gb124) (o := .cells #[.int .i64 a0_0, .int .i64 a0_1, .string a0_2] 24 (0, 0)) (zB BK124.out)) : gb125 ≠ gb124)); clear BK124; clear HB; have BK124 := n0_; have HB := n1_; have BK125 := n2_; have GW125 := n3_; have GE125 := n4_; have NB124_125 := n5_; have NB125_124 := n6_; clear n0_ n1_ n2_ n3_ n4_ n5_ n6_; clear hb hbox hg; have hnb7 := NB124_125.out; have hnc7 := NB125_124.out; obtain ⟨_, _, _, _, _, _⟩ := zC3 BK124.out; obtain ⟨_, _, _, _, _, _⟩ := zC3 BK125.out))
      go_ret
      exact ⟨zz26, zz24⟩
    · rw [if_neg c4] at H
      have c4b0 : (a0_1 == a1_1) = false := beq_eq_false_iff_ne.mpr c4
      have c4b1 : (a0_1 != a1_1) = true := bne_iff_ne.mpr c4
      obtain rfl := Option.some.inj H
      go_enter Tryz.func17, Tryz.ntmps17
      go_wp2_with (first | ((with_reducible refine gate_dst (N := 2) rfl ?_); refine box_event ?hg (N := 2) ?hd (cs := #[.int .i64 a0_0, .int .i64 a0_1, .string a0_2]) (t := 24) ?hr ?_; (case hd => rfl); (case hg => rfl); (case hr => first | (go_simp; done) | (go_simp; rfl)); intro gb124 hg w10 hbox hb; have n0_ := Aside0.mk (below_step zz1 hb); have n1_ := Aside0.mk (hbox); have n2_ := Aside0.mk ((by rw [hg]; exact (below_size zz1) : w.heap.size ≤ gb124)); have n3_ := n2_; clear HB; have HB := n0_; have BK124 := n1_; have GW124 := n2_; have GE124 := n3_; clear n0_ n1_ n2_ n3_; clear hb hbox hg) | ((with_reducible refine gate_dst (N := 3) rfl ?_); refine box_event ?hg (N := 3) ?hd (cs := #[.int .i64 a1_0, .int .i64 a1_1, .string a1_2]) (t := 24) ?hr ?_; (case hd => rfl); (case hg => rfl); (case hr => first | (go_simp; done) | (go_simp; rfl)); intro gb125 hg w11 hbox hb; have n0_ := Aside0.mk (blk_below (g := gb124) (o := .cells #[.int .i64 a0_0, .int .i64 a0_1, .string a0_2] 24 (0, 0)) (zB BK124.out) hb); have n1_ := Aside0.mk (below_step zz14 hb); have n2_ := Aside0.mk (hbox); have n3_ := Aside0.mk ((by rw [hg]; exact (below_size zz14) : w.heap.size ≤ gb125)); have n4_ := n3_; have n5_ := Aside0.mk ((by rw [hg]; exact Nat.ne_of_lt (blk_lt (g := gb124) (o := .cells #[.int .i64 a0_0, .int .i64 a0_1, .string a0_2] 24 (0, 0)) (zB BK124.out)) : gb124 ≠ gb125)); have n6_ := Aside0.mk ((by rw [hg]; exact Nat.ne_of_gt (blk_lt (g := gb124) (o := .cells #[.int .i64 a0_0, .int .i64 a0_1, .string a0_2] 24 (0, 0)) (zB BK124.out)) : gb125 ≠ gb124)); clear BK124; clear HB; have BK124 := n0_; have HB := n1_; have BK125 := n2_; have GW125 := n3_; have GE125 := n4_; have NB124_125 := n5_; have NB125_124 := n6_; clear n0_ n1_ n2_ n3_ n4_ n5_ n6_; clear hb hbox hg; have hnb12 := NB124_125.out; have hnc12 := NB125_124.out; obtain ⟨_, _, _, _, _, _⟩ := zC3 BK124.out; obtain ⟨_, _, _, _, _, _⟩ := zC3 BK125.out))
      go_ret
      exact ⟨zz26, zz24⟩
  · rw [if_neg c3] at H
    have c3b0 : (a0_0 == a1_0) = false := beq_eq_false_iff_ne.mpr c3
    have c3b1 : (a0_0 != a1_0) = true := bne_iff_ne.mpr c3
    obtain rfl := Option.some.inj H
    go_enter Tryz.func17, Tryz.ntmps17
    go_wp2_with (first | ((with_reducible refine gate_dst (N := 2) rfl ?_); refine box_event ?hg (N := 2) ?hd (cs := #[.int .i64 a0_0, .int .i64 a0_1, .string a0_2]) (t := 24) ?hr ?_; (case hd => rfl); (case hg => rfl); (case hr => first | (go_simp; done) | (go_simp; rfl)); intro gb124 hg w15 hbox hb; have n0_ := Aside0.mk (below_step zz1 hb); have n1_ := Aside0.mk (hbox); have n2_ := Aside0.mk ((by rw [hg]; exact (below_size zz1) : w.heap.size ≤ gb124)); have n3_ := n2_; clear HB; have HB := n0_; have BK124 := n1_; have GW124 := n2_; have GE124 := n3_; clear n0_ n1_ n2_ n3_; clear hb hbox hg) | ((with_reducible refine gate_dst (N := 3) rfl ?_); refine box_event ?hg (N := 3) ?hd (cs := #[.int .i64 a1_0, .int .i64 a1_1, .string a1_2]) (t := 24) ?hr ?_; (case hd => rfl); (case hg => rfl); (case hr => first | (go_simp; done) | (go_simp; rfl)); intro gb125 hg w16 hbox hb; have n0_ := Aside0.mk (blk_below (g := gb124) (o := .cells #[.int .i64 a0_0, .int .i64 a0_1, .string a0_2] 24 (0, 0)) (zB BK124.out) hb); have n1_ := Aside0.mk (below_step zz14 hb); have n2_ := Aside0.mk (hbox); have n3_ := Aside0.mk ((by rw [hg]; exact (below_size zz14) : w.heap.size ≤ gb125)); have n4_ := n3_; have n5_ := Aside0.mk ((by rw [hg]; exact Nat.ne_of_lt (blk_lt (g := gb124) (o := .cells #[.int .i64 a0_0, .int .i64 a0_1, .string a0_2] 24 (0, 0)) (zB BK124.out)) : gb124 ≠ gb125)); have n6_ := Aside0.mk ((by rw [hg]; exact Nat.ne_of_gt (blk_lt (g := gb124) (o := .cells #[.int .i64 a0_0, .int .i64 a0_1, .string a0_2] 24 (0, 0)) (zB BK124.out)) : gb125 ≠ gb124)); clear BK124; clear HB; have BK124 := n0_; have HB := n1_; have BK125 := n2_; have GW125 := n3_; have GE125 := n4_; have NB124_125 := n5_; have NB125_124 := n6_; clear n0_ n1_ n2_ n3_ n4_ n5_ n6_; clear hb hbox hg; have hnb17 := NB124_125.out; have hnc17 := NB125_124.out; obtain ⟨_, _, _, _, _, _⟩ := zC3 BK124.out; obtain ⟨_, _, _, _, _, _⟩ := zC3 BK125.out))
    go_ret
    exact ⟨zz26, zz24⟩
end Go.Proofs.YtnomfbmebafolaaGreatDoor.P

namespace Go.Proofs.YtnomfbmebafolaaGreatDoor.P
open Go.RowKit Go.Proofs.YtnomfbmebafolaaGreatDoorW.PrintWords Go.Proofs.YtnomfbmebafolaaGreatDoorW.PrintLast Go.Proofs.YtnomfbmebafolaaGreatDoorW.PrintMore
attribute [local go_sem] max2_int min2_int max_two min_two max_three min_three max_four min_four   -- for this text's walks alone
set_option linter.unusedVariables false
set_option linter.unusedSimpArgs false
theorem eqA26 (d : Nat) (w : World) (x0 y0 : Int) (x1 y1 : Int) :
    (Op.equalIn (d + 2) 26 (.agg #[.int .i64 x0, .int .i64 x1]) (.agg #[.int .i64 y0, .int .i64 y1])).run Tryz.prog w = .ok (x0 == y0 && (x1 == y1)) w := by
  refine eqA_of Tryz.underlying26 (by kernel_rfl) ?_
  refine eqf_cons (by rfl) (by go_simp; rfl) (by go_simp; rfl) (by go_simp) ?_
  exact eqf_last (by rfl) (by go_simp; rfl) (by go_simp; rfl) (by go_simp)
end Go.Proofs.YtnomfbmebafolaaGreatDoor.P

namespace Go.Proofs.YtnomfbmebafolaaGreatDoor.P
open Go.RowKit Go.Proofs.YtnomfbmebafolaaGreatDoorW.PrintWords Go.Proofs.YtnomfbmebafolaaGreatDoorW.PrintLast Go.Proofs.YtnomfbmebafolaaGreatDoorW.PrintMore
attribute [local go_sem] max2_int min2_int max_two min_two max_three min_three max_four min_four   -- for this text's walks alone
set_option linter.unusedVariables false
set_option linter.unusedSimpArgs false
theorem eqA28 (d : Nat) (w : World) (x0 y0 : Int) (x1 y1 : Int) (x2 y2 : Int) (x3 y3 : Int) :
    (Op.equalIn (d + 3) 28 (.agg #[.int .i64 x0, .int .i64 x1, .int .i64 x2, .int .i64 x3]) (.agg #[.int .i64 y0, .int .i64 y1, .int .i64 y2, .int .i64 y3])).run Tryz.prog w = .ok ((x0 == y0 && (x1 == y1)) && ((x2 == y2 && (x3 == y3)))) w := by
  refine eqA_of Tryz.underlying28 (by kernel_rfl) ?_
  refine eqf_cons (by rfl) (by go_simp) (by go_simp) (eqA26 (d + 0) w _ _ _ _) ?_
  exact eqf_last (by rfl) (by go_simp) (by go_simp) (eqA26 (d + 0) w _ _ _ _)
end Go.Proofs.YtnomfbmebafolaaGreatDoor.P
