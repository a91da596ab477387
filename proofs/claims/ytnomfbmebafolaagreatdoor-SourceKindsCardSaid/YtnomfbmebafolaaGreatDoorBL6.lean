/- Contracts of the functions that the law reaches, each with the plain function that it comes to, and plain facts about these. -/
import Derived.Lib.OwnKind
import Derived.Deep.RegionHeld3
import Derived.Deep.RegionWith
import Derived.Test.YtnomfbmebafolaaGreatDoorBL2
import Derived.Test.YtnomfbmebafolaaGreatDoorBL3
import Derived.Test.YtnomfbmebafolaaGreatDoorBL4
import Derived.Test.YtnomfbmebafolaaGreatDoorBL5
namespace Go.Proofs.YtnomfbmebafolaaGreatDoor.P
open Go.RowKit Go.Proofs.YtnomfbmebafolaaGreatDoorW.PrintWords Go.Proofs.YtnomfbmebafolaaGreatDoorW.PrintLast Go.Proofs.YtnomfbmebafolaaGreatDoorW.PrintMore
open M (I64)
set_option linter.unusedVariables false
set_option linter.unusedSimpArgs false
abbrev sreadOk (s : ByteArray) (a b c : Int) (d : ByteArray) (t : TN) : Prop := ∀ W : World, G5 W → Calls Tryz.prog 22 #[.string s] W fun e W' => SrOk W.heap.size a b c d t W' e ∧ Below W.heap.size W W'
abbrev sreadBad (s : ByteArray) (p c : Int) : Prop := ∀ W : World, G5 W → Calls Tryz.prog 22 #[.string s] W fun e W' => SrBad W.heap.size p c W' e ∧ Below W.heap.size W W'
abbrev SReadOk (s : ByteArray) (a b c : Int) (d : ByteArray) (t : TN) : Prop := ∀ W : World, G5 W → Calls Tryz.prog 9 #[.string s] W fun e W' => (∃ v9, e = .returned (.tuple #[srV a b c d t v9, .int .i64 0, .int .i64 0]) ∧ vN (fun k => W.heap.size ≤ k) W' v9 t.f4) ∧ Below W.heap.size W W'
abbrev SReadBad (s : ByteArray) (p c : Int) : Prop := ∀ W : World, G5 W → Calls Tryz.prog 9 #[.string s] W fun e W' => e = .returned (.tuple #[srZ, .int .i64 p, .int .i64 c]) ∧ Below W.heap.size W W'
abbrev srO (a b c : Int) (d : ByteArray) (t : TN) (v : Value) : Obj := .cells #[.int .i64 a, .int .i64 b, .int .i64 c, .string d, .int .i64 t.f0, .int .i64 t.f1.f0, .int .i64 t.f1.f1, .string t.f1.f2, .int .i64 t.f2.f0.f0, .int .i64 t.f2.f0.f1, .int .i64 t.f2.f1.f0, .int .i64 t.f2.f1.f1, .string t.f3, v] 40 (0, 0)
set_option maxHeartbeats 4000000 in
set_option maxRecDepth 100000 in
theorem sRead_ok (s : ByteArray) (a b c : Int) (d : ByteArray) (t : TN) (hp : sreadOk s a b c d t) : SReadOk s a b c d t := by
  intro W hG
  have hu := Tryz.underlying40
  have hu2 := Tryz.underlying31
  have HG := Lib.hid hG
  have HP := Lib.hid hp
  clear hG hp
  go_enter Tryz.func9, Tryz.ntmps9
  go_wp2_with (first | (go_at_call 22; (with_reducible refine (HP.out (W.alloc sr0) ?sg).mono ?_); (case sg => exact gl_5_5 (below_alloc (Below.refl _ _) sr0) HG.out); rintro e w1 ⟨hret, hbl⟩; have hb1 := Below.on3 (Below.refl _ W) hbl (Nat.le_refl _); have HB1 := Lib.hid hb1; have BK1 := Lib.hid (blk_below (blk_new W sr0) hbl); have HG1 := Lib.hid (gl_5_5 hb1 HG.out); obtain ⟨v9, rfl, hv⟩ := hret; obtain ⟨AA, kk, rfl⟩ := Kd.V_slice hv; have HV := Lib.hid (Kd.V_mono (ok' := fun k => W.heap.size < k) hv (fun k hk => (by simp at hk; omega))); clear hv; clear hbl hb1; obtain ⟨⟨c0, c1, c2, c3, c4, c5, c6, c7, c8, c9, c10, c11, c12, c13⟩, z0, z1, z2, z3, z4, z5, z6, z7, z8, z9, z10, z11, z12, z13⟩ := z14 BK1.out; have hsy : W.heap.size < w1.heap.size := blk_lt BK1.out) | (go_at_call 23; (with_reducible refine (told_nil _ ?sg).mono ?_); (case sg => exact gl_5_5 (below_alloc (Below.refl _ _) _) HG1.out); rintro e w2 ⟨rfl, hbl⟩; have HB2 := Lib.hid (Below.on3 HB1.out hbl (Nat.le_refl _)); have BK2 := Lib.hid (blk_below (blk_alloc BK1.out _) hbl); have BN2 := Lib.hid (blk_below (blk_new w1 (srO a b c d t (.slice AA t.f4.length kk))) hbl); have HV2 := Lib.hid (Kd.V_below (Kd.V_alloc HV.out _) hbl); clear hbl; (try clear c0 c1 c2 c3 c4 c5 c6 c7 c8 c9 c10 c11 c12 c13 z0 z1 z2 z3 z4 z5 z6 z7 z8 z9 z10 z11 z12 z13 hsy); obtain ⟨⟨c0, c1, c2, c3, c4, c5, c6, c7, c8, c9, c10, c11, c12, c13⟩, z0, z1, z2, z3, z4, z5, z6, z7, z8, z9, z10, z11, z12, z13⟩ := z14 BK2.out; have hsy : W.heap.size < w2.heap.size := blk_lt BK2.out; obtain ⟨⟨x0, x1, x2, x3, x4, x5, x6, x7, x8, x9, x10, x11, x12, x13⟩, y0, y1, y2, y3, y4, y5, y6, y7, y8, y9, y10, y11, y12, y13⟩ := z14 BN2.out))
  refine bodyPost_ret (results_ctt rfl _ _ W.heap.size 40 _ (0, 0) _ rfl (by with_reducible repeat (first | exact put14_blk BK2.out _ _ _ _ _ _ _ _ _ _ _ _ _ _ | exact BK2.out | refine blk_alloc ?_ _)) hu rfl (by kernel_rfl)) rfl ?_
  exact ⟨⟨.slice AA t.f4.length kk, rfl, (Kd.V_mono (ok := fun k => W.heap.size < k) (by with_reducible repeat (first | exact HV2.out | refine Kd.V_alloc ?_ _ | refine put14_vN (ok := fun k => W.heap.size < k) ?_ (fun k hk => Nat.ne_of_gt hk) _ _ _ _ _ _ _ _ _ _ _ _ _ _)) (fun k hk => Nat.le_of_lt hk))⟩, (by with_reducible repeat (first | exact HB2.out | refine below_alloc ?_ _ | refine put14_below ?_ (Nat.le_refl _) _ _ _ _ _ _ _ _ _ _ _ _ _ _))⟩
set_option maxHeartbeats 4000000 in
set_option maxRecDepth 100000 in
theorem sRead_bad (s : ByteArray) (p c : Int) (hp : sreadBad s p c) : SReadBad s p c := by
  intro W hG
  have hu := Tryz.underlying40
  have hu2 := Tryz.underlying31
  have HG := Lib.hid hG
  have HP := Lib.hid hp
  clear hG hp
  go_enter Tryz.func9, Tryz.ntmps9
  go_wp2_with (first | (go_at_call 22; (with_reducible refine (HP.out (W.alloc sr0) ?sg).mono ?_); (case sg => exact gl_5_5 (below_alloc (Below.refl _ _) sr0) HG.out); rintro e w1 ⟨hret, hbl⟩; have hb1 := Below.on3 (Below.refl _ W) hbl (Nat.le_refl _); have HB1 := Lib.hid hb1; have BK1 := Lib.hid (blk_below (blk_new W sr0) hbl); have HG1 := Lib.hid (gl_5_5 hb1 HG.out); obtain ⟨q, why, rfl, he, hq⟩ := hret; have HE := Lib.hid he; have HQ := Lib.hid (show W.heap.size < q from (by simp at hq; omega)); clear he hq; clear hbl hb1; obtain ⟨⟨c0, c1, c2, c3, c4, c5, c6, c7, c8, c9, c10, c11, c12, c13⟩, z0, z1, z2, z3, z4, z5, z6, z7, z8, z9, z10, z11, z12, z13⟩ := z14 BK1.out; have hsy : W.heap.size < w1.heap.size := blk_lt BK1.out) | (go_at_call 23; (with_reducible refine (told_wrong q p c why _ ?sg ?sq).mono ?_); (case sg => exact gl_5_5 (below_alloc (Below.refl _ _) _) HG1.out); (case sq => exact blk_alloc HE.out _); rintro e w2 ⟨rfl, hbl⟩; have HB2 := Lib.hid (Below.on3 HB1.out hbl (Nat.le_refl _)); have BK2 := Lib.hid (blk_below (blk_alloc BK1.out _) hbl); have BN2 := Lib.hid (blk_below (blk_new w1 sr0) hbl); clear hbl; (try clear c0 c1 c2 c3 c4 c5 c6 c7 c8 c9 c10 c11 c12 c13 z0 z1 z2 z3 z4 z5 z6 z7 z8 z9 z10 z11 z12 z13 hsy); obtain ⟨⟨c0, c1, c2, c3, c4, c5, c6, c7, c8, c9, c10, c11, c12, c13⟩, z0, z1, z2, z3, z4, z5, z6, z7, z8, z9, z10, z11, z12, z13⟩ := z14 BK2.out; have hsy : W.heap.size < w2.heap.size := blk_lt BK2.out; obtain ⟨⟨x0, x1, x2, x3, x4, x5, x6, x7, x8, x9, x10, x11, x12, x13⟩, y0, y1, y2, y3, y4, y5, y6, y7, y8, y9, y10, y11, y12, y13⟩ := z14 BN2.out))
  refine bodyPost_ret (results_ctt rfl _ _ W.heap.size 40 _ (0, 0) _ rfl (by with_reducible repeat (first | exact put14_blk BK2.out _ _ _ _ _ _ _ _ _ _ _ _ _ _ | exact BK2.out | refine blk_alloc ?_ _)) hu rfl (by kernel_rfl)) rfl ?_
  exact ⟨rfl, (by with_reducible repeat (first | exact HB2.out | refine below_alloc ?_ _ | refine put14_below ?_ (Nat.le_refl _) _ _ _ _ _ _ _ _ _ _ _ _ _ _))⟩
set_option maxHeartbeats 4000000 in
set_option maxRecDepth 100000 in
theorem sread_empty (s : ByteArray) (hs : s = (⟨#[]⟩ : ByteArray)) : sreadOk s 0 0 0 ⟨#[]⟩ ⟨0, ⟨0, 0, ⟨#[]⟩⟩, ⟨⟨0, 0⟩, ⟨0, 0⟩⟩, ⟨#[]⟩, []⟩ := by
  intro W hG
  have hu := Tryz.underlying40
  have hu2 := Tryz.underlying31
  have HG := Lib.hid hG
  subst hs
  go_enter Tryz.func22, Tryz.ntmps22
  go_wp2_with (first | fail)
  refine bodyPost_ret (results_ct rfl _ _ W.heap.size 40 _ (0, 0) _ rfl (by with_reducible repeat (first | exact put14_blk (blk_new W sr0) _ _ _ _ _ _ _ _ _ _ _ _ _ _ | exact blk_new W _ | refine blk_alloc ?_ _)) hu rfl (by kernel_rfl)) rfl ?_
  exact ⟨⟨.slice none 0 0, rfl, Kd.V_nil _ _ _ _ _⟩, by with_reducible repeat (first | exact Below.refl _ _ | refine below_alloc ?_ _ | refine put14_below ?_ (Nat.le_refl _) _ _ _ _ _ _ _ _ _ _ _ _ _ _)⟩
set_option maxHeartbeats 4000000 in
set_option maxRecDepth 100000 in
theorem sread_true (s : ByteArray) (hs : s = (⟨#[84, 82, 85, 69]⟩ : ByteArray)) : sreadOk s 1 1 1 ⟨#[]⟩ ⟨0, ⟨0, 0, ⟨#[]⟩⟩, ⟨⟨0, 0⟩, ⟨0, 0⟩⟩, ⟨#[]⟩, []⟩ := by
  intro W hG
  have hu := Tryz.underlying40
  have hu2 := Tryz.underlying31
  have HG := Lib.hid hG
  subst hs
  go_enter Tryz.func22, Tryz.ntmps22
  go_wp2_with (first | fail)
  refine bodyPost_ret (results_ct rfl _ _ W.heap.size 40 _ (0, 0) _ rfl (by with_reducible repeat (first | exact put14_blk (blk_new W sr0) _ _ _ _ _ _ _ _ _ _ _ _ _ _ | exact blk_new W _ | refine blk_alloc ?_ _)) hu rfl (by kernel_rfl)) rfl ?_
  exact ⟨⟨.slice none 0 0, rfl, Kd.V_nil _ _ _ _ _⟩, by with_reducible repeat (first | exact Below.refl _ _ | refine below_alloc ?_ _ | refine put14_below ?_ (Nat.le_refl _) _ _ _ _ _ _ _ _ _ _ _ _ _ _)⟩
set_option maxHeartbeats 4000000 in
set_option maxRecDepth 100000 in
theorem sread_false (s : ByteArray) (hs : s = (⟨#[70, 65, 76, 83, 69]⟩ : ByteArray)) : sreadOk s 1 1 0 ⟨#[]⟩ ⟨0, ⟨0, 0, ⟨#[]⟩⟩, ⟨⟨0, 0⟩, ⟨0, 0⟩⟩, ⟨#[]⟩, []⟩ := by
  intro W hG
  have hu := Tryz.underlying40
  have hu2 := Tryz.underlying31
  have HG := Lib.hid hG
  subst hs
  go_enter Tryz.func22, Tryz.ntmps22
  go_wp2_with (first | fail)
  refine bodyPost_ret (results_ct rfl _ _ W.heap.size 40 _ (0, 0) _ rfl (by with_reducible repeat (first | exact put14_blk (blk_new W sr0) _ _ _ _ _ _ _ _ _ _ _ _ _ _ | exact blk_new W _ | refine blk_alloc ?_ _)) hu rfl (by kernel_rfl)) rfl ?_
  exact ⟨⟨.slice none 0 0, rfl, Kd.V_nil _ _ _ _ _⟩, by with_reducible repeat (first | exact Below.refl _ _ | refine below_alloc ?_ _ | refine put14_below ?_ (Nat.le_refl _) _ _ _ _ _ _ _ _ _ _ _ _ _ _)⟩
set_option maxHeartbeats 4000000 in
set_option maxRecDepth 100000 in
theorem sread_eq_ok (s : ByteArray) (hs : s.size ≤ 300) (h0 : 0 < s.size) (h61 : bt s 0 = 61) (t : TN) (hp : SparOk (s.extract 1 s.size) t) : sreadOk s 2 0 0 ⟨#[]⟩ t := by
  intro W hG
  have hu := Tryz.underlying40
  have hu2 := Tryz.underlying31
  have HG := Lib.hid hG
  have HP := Lib.hid hp
  have h300 : decide ((300 : Int) < (s.size : Int)) = false := decide_eq_false (by omega)
  have hne : s ≠ (⟨#[]⟩ : ByteArray) := by rintro rfl; exact absurd h0 (by decide)
  have e0 : decide (s = (⟨#[]⟩ : ByteArray)) = false := decide_eq_false hne
  have e1 : s.toList.isEmpty = false := by
    rw [ByteArray.toList_eq]
    have hl : s.data.toList.length = s.size := by simp
    cases hd : s.data.toList with
    | nil => rw [hd] at hl; simp at hl; omega
    | cons a l => rfl
  have hpos : (0 : Int) < (s.size : Int) := by omega
  have hb : ∀ h : 0 < s.size, ((s[0]'h).toNat : Int) = bt s 0 := fun h => bt_at s 0 h
  have b61a : (bt s 0 == 61) = true := beq_iff_eq.2 h61
  have b61b : decide (bt s 0 = 61) = true := decide_eq_true h61
  have b61c : (bt s 0 = 61) = True := eq_true h61
  have l1 : (1 : Int) ≤ (s.size : Int) := by omega
  have l2 : decide ((1 : Int) ≤ (s.size : Int)) = true := decide_eq_true l1
  clear hG hp
  go_enter Tryz.func22, Tryz.ntmps22
  go_wp2_with (first | (go_at_call 38; (with_reducible refine (HP.out (W.alloc sr0) ?sg).mono ?_); (case sg => exact gl_5_5 (below_alloc (Below.refl _ _) sr0) HG.out); rintro e w1 ⟨hret, hbl⟩; have hb1 := Below.on3 (Below.refl _ W) hbl (Nat.le_refl _); have HB1 := Lib.hid hb1; have BK1 := Lib.hid (blk_below (blk_new W sr0) hbl); have HG1 := Lib.hid (gl_5_5 hb1 HG.out); obtain ⟨v9, rfl, hv⟩ := hret; obtain ⟨AA, kk, rfl⟩ := Kd.V_slice hv; have HV := Lib.hid (Kd.V_mono (ok' := fun k => W.heap.size < k) hv (fun k hk => (by simp at hk; omega))); clear hv; clear hbl hb1; obtain ⟨⟨c0, c1, c2, c3, c4, c5, c6, c7, c8, c9, c10, c11, c12, c13⟩, z0, z1, z2, z3, z4, z5, z6, z7, z8, z9, z10, z11, z12, z13⟩ := z14 BK1.out; have hsy : W.heap.size < w1.heap.size := blk_lt BK1.out))
  refine bodyPost_ret (results_ct rfl _ _ W.heap.size 40 _ (0, 0) _ rfl (by with_reducible repeat (first | exact put14_blk BK1.out _ _ _ _ _ _ _ _ _ _ _ _ _ _ | exact BK1.out | refine blk_alloc ?_ _)) hu rfl (by kernel_rfl)) rfl ?_
  exact ⟨⟨.slice AA t.f4.length kk, rfl, (Kd.V_mono (ok := fun k => W.heap.size < k) (by with_reducible repeat (first | exact HV.out | refine Kd.V_alloc ?_ _ | refine put14_vN (ok := fun k => W.heap.size < k) ?_ (fun k hk => Nat.ne_of_gt hk) _ _ _ _ _ _ _ _ _ _ _ _ _ _)) (fun k hk => Nat.le_of_lt hk))⟩, (by with_reducible repeat (first | exact HB1.out | refine below_alloc ?_ _ | refine put14_below ?_ (Nat.le_refl _) _ _ _ _ _ _ _ _ _ _ _ _ _ _))⟩
set_option maxHeartbeats 4000000 in
set_option maxRecDepth 100000 in
theorem sread_eq_bad (s : ByteArray) (hs : s.size ≤ 300) (h0 : 0 < s.size) (h61 : bt s 0 = 61) (p c : Int) (hp : SparBad (s.extract 1 s.size) p c) : sreadBad s p c := by
  intro W hG
  have hu := Tryz.underlying40
  have hu2 := Tryz.underlying31
  have HG := Lib.hid hG
  have HP := Lib.hid hp
  have h300 : decide ((300 : Int) < (s.size : Int)) = false := decide_eq_false (by omega)
  have hne : s ≠ (⟨#[]⟩ : ByteArray) := by rintro rfl; exact absurd h0 (by decide)
  have e0 : decide (s = (⟨#[]⟩ : ByteArray)) = false := decide_eq_false hne
  have e1 : s.toList.isEmpty = false := by
    rw [ByteArray.toList_eq]
    have hl : s.data.toList.length = s.size := by simp
    cases hd : s.data.toList with
    | nil => rw [hd] at hl; simp at hl; omega
    | cons a l => rfl
  have hpos : (0 : Int) < (s.size : Int) := by omega
  have hb : ∀ h : 0 < s.size, ((s[0]'h).toNat : Int) = bt s 0 := fun h => bt_at s 0 h
  have b61a : (bt s 0 == 61) = true := beq_iff_eq.2 h61
  have b61b : decide (bt s 0 = 61) = true := decide_eq_true h61
  have b61c : (bt s 0 = 61) = True := eq_true h61
  have l1 : (1 : Int) ≤ (s.size : Int) := by omega
  have l2 : decide ((1 : Int) ≤ (s.size : Int)) = true := decide_eq_true l1
  clear hG hp
  go_enter Tryz.func22, Tryz.ntmps22
  go_wp2_with (first | (go_at_call 38; (with_reducible refine (HP.out (W.alloc sr0) ?sg).mono ?_); (case sg => exact gl_5_5 (below_alloc (Below.refl _ _) sr0) HG.out); rintro e w1 ⟨hret, hbl⟩; have hb1 := Below.on3 (Below.refl _ W) hbl (Nat.le_refl _); have HB1 := Lib.hid hb1; have BK1 := Lib.hid (blk_below (blk_new W sr0) hbl); have HG1 := Lib.hid (gl_5_5 hb1 HG.out); obtain ⟨q, why, rfl, he, hq⟩ := hret; have HE := Lib.hid he; have HQ := Lib.hid (show W.heap.size < q from (by simp at hq; omega)); clear he hq; clear hbl hb1; obtain ⟨⟨c0, c1, c2, c3, c4, c5, c6, c7, c8, c9, c10, c11, c12, c13⟩, z0, z1, z2, z3, z4, z5, z6, z7, z8, z9, z10, z11, z12, z13⟩ := z14 BK1.out; have hsy : W.heap.size < w1.heap.size := blk_lt BK1.out))
  refine bodyPost_ret (results_ct rfl _ _ W.heap.size 40 _ (0, 0) _ rfl (by with_reducible repeat (first | exact put14_blk BK1.out _ _ _ _ _ _ _ _ _ _ _ _ _ _ | exact BK1.out | refine blk_alloc ?_ _)) hu rfl (by kernel_rfl)) rfl ?_
  exact ⟨⟨q, why, rfl, by with_reducible repeat (first | exact HE.out | refine (put14_old (Nat.ne_of_gt HQ.out) _ _ _ _ _ _ _ _ _ _ _ _ _ _).trans ?_), Nat.le_of_lt HQ.out⟩, (by with_reducible repeat (first | exact HB1.out | refine below_alloc ?_ _ | refine put14_below ?_ (Nat.le_refl _) _ _ _ _ _ _ _ _ _ _ _ _ _ _))⟩
set_option maxHeartbeats 4000000 in
set_option maxRecDepth 100000 in
theorem sread_num (s : ByteArray) (hs : s.size ≤ 300) (h0 : 0 < s.size) (h61 : bt s 0 ≠ 61) (hT : s ≠ (⟨#[84, 82, 85, 69]⟩ : ByteArray)) (hF : s ≠ (⟨#[70, 65, 76, 83, 69]⟩ : ByteArray)) (n : Int) (hn : num_Parse.f s = some (n, true)) : sreadOk s 1 2 n ⟨#[]⟩ ⟨0, ⟨0, 0, ⟨#[]⟩⟩, ⟨⟨0, 0⟩, ⟨0, 0⟩⟩, ⟨#[]⟩, []⟩ := by
  intro W hG
  have hu := Tryz.underlying40
  have hu2 := Tryz.underlying31
  have HG := Lib.hid hG
  have HN := Lib.hid hn
  have h300 : decide ((300 : Int) < (s.size : Int)) = false := decide_eq_false (by omega)
  have hne : s ≠ (⟨#[]⟩ : ByteArray) := by rintro rfl; exact absurd h0 (by decide)
  have e0 : decide (s = (⟨#[]⟩ : ByteArray)) = false := decide_eq_false hne
  have e1 : s.toList.isEmpty = false := by
    rw [ByteArray.toList_eq]
    have hl : s.data.toList.length = s.size := by simp
    cases hd : s.data.toList with
    | nil => rw [hd] at hl; simp at hl; omega
    | cons a l => rfl
  have hpos : (0 : Int) < (s.size : Int) := by omega
  have hb : ∀ h : 0 < s.size, ((s[0]'h).toNat : Int) = bt s 0 := fun h => bt_at s 0 h
  have b61a : (bt s 0 == 61) = false := beq_eq_false_iff_ne.2 h61
  have b61b : decide (bt s 0 = 61) = false := decide_eq_false h61
  have b61c : (bt s 0 = 61) = False := eq_false h61
  have hTl : s.toList ≠ ([84, 82, 85, 69] : List UInt8) := fun e_ => hT (ByteArray.ext (Array.ext' (by rw [← ByteArray.toList_eq]; exact e_)))
  have hTa : (s.toList == ([84, 82, 85, 69] : List UInt8)) = false := beq_eq_false_iff_ne.2 hTl
  have hTb : decide (s.toList = ([84, 82, 85, 69] : List UInt8)) = false := decide_eq_false hTl
  have hFl : s.toList ≠ ([70, 65, 76, 83, 69] : List UInt8) := fun e_ => hF (ByteArray.ext (Array.ext' (by rw [← ByteArray.toList_eq]; exact e_)))
  have hFa : (s.toList == ([70, 65, 76, 83, 69] : List UInt8)) = false := beq_eq_false_iff_ne.2 hFl
  have hFb : decide (s.toList = ([70, 65, 76, 83, 69] : List UInt8)) = false := decide_eq_false hFl
  clear hG hn
  go_enter Tryz.func22, Tryz.ntmps22
  go_wp2_with (first | (go_at_call 39; (with_reducible refine (num_Parse.calls s n true (W.alloc sr0) ?sg HN.out).mono ?_); (case sg => exact gl_4_2 (below_alloc (Below.refl _ _) sr0) HG.out.1); rintro e w1 ⟨rfl, hbl⟩; have HB1 := Lib.hid (Below.on3 (Below.refl _ W) hbl (Nat.le_refl _)); have BK1 := Lib.hid (blk_below (blk_new W sr0) hbl); clear hbl; obtain ⟨⟨c0, c1, c2, c3, c4, c5, c6, c7, c8, c9, c10, c11, c12, c13⟩, z0, z1, z2, z3, z4, z5, z6, z7, z8, z9, z10, z11, z12, z13⟩ := z14 BK1.out; have hsy : W.heap.size < w1.heap.size := blk_lt BK1.out))
  refine bodyPost_ret (results_ct rfl _ _ W.heap.size 40 _ (0, 0) _ rfl (by with_reducible repeat (first | exact put14_blk BK1.out _ _ _ _ _ _ _ _ _ _ _ _ _ _ | exact BK1.out | refine blk_alloc ?_ _)) hu rfl (by kernel_rfl)) rfl ?_
  exact ⟨⟨.slice none 0 0, rfl, Kd.V_nil _ _ _ _ _⟩, (by with_reducible repeat (first | exact HB1.out | refine below_alloc ?_ _ | refine put14_below ?_ (Nat.le_refl _) _ _ _ _ _ _ _ _ _ _ _ _ _ _))⟩
set_option maxHeartbeats 4000000 in
set_option maxRecDepth 100000 in
theorem sread_txt (s : ByteArray) (hs : s.size ≤ 300) (h0 : 0 < s.size) (h61 : bt s 0 ≠ 61) (hT : s ≠ (⟨#[84, 82, 85, 69]⟩ : ByteArray)) (hF : s ≠ (⟨#[70, 65, 76, 83, 69]⟩ : ByteArray)) (n : Int) (hn : num_Parse.f s = some (n, false)) (h39 : bt s 0 ≠ 39) (hz : ¬ ((s.size : Int) > 200)) : sreadOk s 1 3 0 s ⟨0, ⟨0, 0, ⟨#[]⟩⟩, ⟨⟨0, 0⟩, ⟨0, 0⟩⟩, ⟨#[]⟩, []⟩ := by
  intro W hG
  have hu := Tryz.underlying40
  have hu2 := Tryz.underlying31
  have HG := Lib.hid hG
  have HN := Lib.hid hn
  have HZ := Lib.hid (show value_Of.f s = some (3, 0, s) from if_neg hz)
  have h300 : decide ((300 : Int) < (s.size : Int)) = false := decide_eq_false (by omega)
  have hne : s ≠ (⟨#[]⟩ : ByteArray) := by rintro rfl; exact absurd h0 (by decide)
  have e0 : decide (s = (⟨#[]⟩ : ByteArray)) = false := decide_eq_false hne
  have e1 : s.toList.isEmpty = false := by
    rw [ByteArray.toList_eq]
    have hl : s.data.toList.length = s.size := by simp
    cases hd : s.data.toList with
    | nil => rw [hd] at hl; simp at hl; omega
    | cons a l => rfl
  have hpos : (0 : Int) < (s.size : Int) := by omega
  have hb : ∀ h : 0 < s.size, ((s[0]'h).toNat : Int) = bt s 0 := fun h => bt_at s 0 h
  have b61a : (bt s 0 == 61) = false := beq_eq_false_iff_ne.2 h61
  have b61b : decide (bt s 0 = 61) = false := decide_eq_false h61
  have b61c : (bt s 0 = 61) = False := eq_false h61
  have hTl : s.toList ≠ ([84, 82, 85, 69] : List UInt8) := fun e_ => hT (ByteArray.ext (Array.ext' (by rw [← ByteArray.toList_eq]; exact e_)))
  have hTa : (s.toList == ([84, 82, 85, 69] : List UInt8)) = false := beq_eq_false_iff_ne.2 hTl
  have hTb : decide (s.toList = ([84, 82, 85, 69] : List UInt8)) = false := decide_eq_false hTl
  have hFl : s.toList ≠ ([70, 65, 76, 83, 69] : List UInt8) := fun e_ => hF (ByteArray.ext (Array.ext' (by rw [← ByteArray.toList_eq]; exact e_)))
  have hFa : (s.toList == ([70, 65, 76, 83, 69] : List UInt8)) = false := beq_eq_false_iff_ne.2 hFl
  have hFb : decide (s.toList = ([70, 65, 76, 83, 69] : List UInt8)) = false := decide_eq_false hFl
  have b39a : (bt s 0 == 39) = false := beq_eq_false_iff_ne.2 h39
  have b39b : decide (bt s 0 = 39) = false := decide_eq_false h39
  have b39c : (bt s 0 = 39) = False := eq_false h39
  have l1 : (1 : Int) ≤ (s.size : Int) := by omega
  have l2 : decide ((1 : Int) ≤ (s.size : Int)) = true := decide_eq_true l1
  clear hG hn hz
  go_enter Tryz.func22, Tryz.ntmps22
  go_wp2_with (first | (go_at_call 39; (with_reducible refine (num_Parse.calls s n false (W.alloc sr0) ?sg HN.out).mono ?_); (case sg => exact gl_4_2 (below_alloc (Below.refl _ _) sr0) HG.out.1); rintro e w1 ⟨rfl, hbl⟩; have HB1 := Lib.hid (Below.on3 (Below.refl _ W) hbl (Nat.le_refl _)); have BK1 := Lib.hid (blk_below (blk_new W sr0) hbl); clear hbl; obtain ⟨⟨c0, c1, c2, c3, c4, c5, c6, c7, c8, c9, c10, c11, c12, c13⟩, z0, z1, z2, z3, z4, z5, z6, z7, z8, z9, z10, z11, z12, z13⟩ := z14 BK1.out; have hsy : W.heap.size < w1.heap.size := blk_lt BK1.out) | (go_at_call 40; (with_reducible refine (value_Of.calls s 3 0 s w1 HZ.out).mono ?_); rintro e w2 ⟨rfl, hbl⟩; have HB2 := Lib.hid (Below.on2 HB1.out hbl HB1.out.size); have BK2 := Lib.hid (blk_below BK1.out hbl); clear hbl; (try clear c0 c1 c2 c3 c4 c5 c6 c7 c8 c9 c10 c11 c12 c13 z0 z1 z2 z3 z4 z5 z6 z7 z8 z9 z10 z11 z12 z13 hsy); obtain ⟨⟨c0, c1, c2, c3, c4, c5, c6, c7, c8, c9, c10, c11, c12, c13⟩, z0, z1, z2, z3, z4, z5, z6, z7, z8, z9, z10, z11, z12, z13⟩ := z14 BK2.out; have hsy : W.heap.size < w2.heap.size := blk_lt BK2.out))
  refine bodyPost_ret (results_ct rfl _ _ W.heap.size 40 _ (0, 0) _ rfl (by with_reducible repeat (first | exact put14_blk BK2.out _ _ _ _ _ _ _ _ _ _ _ _ _ _ | exact BK2.out | refine blk_alloc ?_ _)) hu rfl (by kernel_rfl)) rfl ?_
  exact ⟨⟨.slice none 0 0, rfl, Kd.V_nil _ _ _ _ _⟩, (by with_reducible repeat (first | exact HB2.out | refine below_alloc ?_ _ | refine put14_below ?_ (Nat.le_refl _) _ _ _ _ _ _ _ _ _ _ _ _ _ _))⟩
set_option maxHeartbeats 4000000 in
set_option maxRecDepth 100000 in
theorem sread_quo (s : ByteArray) (hs : s.size ≤ 300) (h0 : 0 < s.size) (h61 : bt s 0 ≠ 61) (hT : s ≠ (⟨#[84, 82, 85, 69]⟩ : ByteArray)) (hF : s ≠ (⟨#[70, 65, 76, 83, 69]⟩ : ByteArray)) (n : Int) (hn : num_Parse.f s = some (n, false)) (h39 : bt s 0 = 39) (hz : ¬ (((s.extract 1 s.size).size : Int) > 200)) : sreadOk s 1 3 0 (s.extract 1 s.size) ⟨0, ⟨0, 0, ⟨#[]⟩⟩, ⟨⟨0, 0⟩, ⟨0, 0⟩⟩, ⟨#[]⟩, []⟩ := by
  intro W hG
  have hu := Tryz.underlying40
  have hu2 := Tryz.underlying31
  have HG := Lib.hid hG
  have HN := Lib.hid hn
  have HZ := Lib.hid (show value_Of.f (s.extract 1 s.size) = some (3, 0, (s.extract 1 s.size)) from if_neg hz)
  have h300 : decide ((300 : Int) < (s.size : Int)) = false := decide_eq_false (by omega)
  have hne : s ≠ (⟨#[]⟩ : ByteArray) := by rintro rfl; exact absurd h0 (by decide)
  have e0 : decide (s = (⟨#[]⟩ : ByteArray)) = false := decide_eq_false hne
  have e1 : s.toList.isEmpty = false := by
    rw [ByteArray.toList_eq]
    have hl : s.data.toList.length = s.size := by simp
    cases hd : s.data.toList with
    | nil => rw [hd] at hl; simp at hl; omega
    | cons a l => rfl
  have hpos : (0 : Int) < (s.size : Int) := by omega
  have hb : ∀ h : 0 < s.size, ((s[0]'h).toNat : Int) = bt s 0 := fun h => bt_at s 0 h
  have b61a : (bt s 0 == 61) = false := beq_eq_false_iff_ne.2 h61
  have b61b : decide (bt s 0 = 61) = false := decide_eq_false h61
  have b61c : (bt s 0 = 61) = False := eq_false h61
  have hTl : s.toList ≠ ([84, 82, 85, 69] : List UInt8) := fun e_ => hT (ByteArray.ext (Array.ext' (by rw [← ByteArray.toList_eq]; exact e_)))
  have hTa : (s.toList == ([84, 82, 85, 69] : List UInt8)) = false := beq_eq_false_iff_ne.2 hTl
  have hTb : decide (s.toList = ([84, 82, 85, 69] : List UInt8)) = false := decide_eq_false hTl
  have hFl : s.toList ≠ ([70, 65, 76, 83, 69] : List UInt8) := fun e_ => hF (ByteArray.ext (Array.ext' (by rw [← ByteArray.toList_eq]; exact e_)))
  have hFa : (s.toList == ([70, 65, 76, 83, 69] : List UInt8)) = false := beq_eq_false_iff_ne.2 hFl
  have hFb : decide (s.toList = ([70, 65, 76, 83, 69] : List UInt8)) = false := decide_eq_false hFl
  have b39a : (bt s 0 == 39) = true := beq_iff_eq.2 h39
  have b39b : decide (bt s 0 = 39) = true := decide_eq_true h39
  have b39c : (bt s 0 = 39) = True := eq_true h39
  have l1 : (1 : Int) ≤ (s.size : Int) := by omega
  have l2 : decide ((1 : Int) ≤ (s.size : Int)) = true := decide_eq_true l1
  clear hG hn hz
  go_enter Tryz.func22, Tryz.ntmps22
  go_wp2_with (first | (go_at_call 39; (with_reducible refine (num_Parse.calls s n false (W.alloc sr0) ?sg HN.out).mono ?_); (case sg => exact gl_4_2 (below_alloc (Below.refl _ _) sr0) HG.out.1); rintro e w1 ⟨rfl, hbl⟩; have HB1 := Lib.hid (Below.on3 (Below.refl _ W) hbl (Nat.le_refl _)); have BK1 := Lib.hid (blk_below (blk_new W sr0) hbl); clear hbl; obtain ⟨⟨c0, c1, c2, c3, c4, c5, c6, c7, c8, c9, c10, c11, c12, c13⟩, z0, z1, z2, z3, z4, z5, z6, z7, z8, z9, z10, z11, z12, z13⟩ := z14 BK1.out; have hsy : W.heap.size < w1.heap.size := blk_lt BK1.out) | (go_at_call 40; (with_reducible refine (value_Of.calls (s.extract 1 s.size) 3 0 (s.extract 1 s.size) w1 HZ.out).mono ?_); rintro e w2 ⟨rfl, hbl⟩; have HB2 := Lib.hid (Below.on2 HB1.out hbl HB1.out.size); have BK2 := Lib.hid (blk_below BK1.out hbl); clear hbl; (try clear c0 c1 c2 c3 c4 c5 c6 c7 c8 c9 c10 c11 c12 c13 z0 z1 z2 z3 z4 z5 z6 z7 z8 z9 z10 z11 z12 z13 hsy); obtain ⟨⟨c0, c1, c2, c3, c4, c5, c6, c7, c8, c9, c10, c11, c12, c13⟩, z0, z1, z2, z3, z4, z5, z6, z7, z8, z9, z10, z11, z12, z13⟩ := z14 BK2.out; have hsy : W.heap.size < w2.heap.size := blk_lt BK2.out))
  refine bodyPost_ret (results_ct rfl _ _ W.heap.size 40 _ (0, 0) _ rfl (by with_reducible repeat (first | exact put14_blk BK2.out _ _ _ _ _ _ _ _ _ _ _ _ _ _ | exact BK2.out | refine blk_alloc ?_ _)) hu rfl (by kernel_rfl)) rfl ?_
  exact ⟨⟨.slice none 0 0, rfl, Kd.V_nil _ _ _ _ _⟩, (by with_reducible repeat (first | exact HB2.out | refine below_alloc ?_ _ | refine put14_below ?_ (Nat.le_refl _) _ _ _ _ _ _ _ _ _ _ _ _ _ _))⟩
end Go.Proofs.YtnomfbmebafolaaGreatDoor.P

namespace Go.Proofs.YtnomfbmebafolaaGreatDoor.P
open Go.RowKit Go.Proofs.YtnomfbmebafolaaGreatDoorW.PrintWords Go.Proofs.YtnomfbmebafolaaGreatDoorW.PrintLast Go.Proofs.YtnomfbmebafolaaGreatDoorW.PrintMore
open M (I64)
set_option linter.unusedVariables false
set_option linter.unusedSimpArgs false
abbrev vlO (b c : Int) (d : ByteArray) : Obj := .cells #[.int .i64 b, .int .i64 c, .string d] 24 (0, 0)
abbrev TextR (b c : Int) (d r : ByteArray) : Prop := ∀ W : World, G5 W → Calls Tryz.prog 21 #[.agg #[.int .i64 b, .int .i64 c, .string d]] W fun e W' => e = .returned (.string r) ∧ Below W.heap.size W W'
theorem g0_put14 {X : World} {p : Addr} {q : Nat} {v : Value} (h : X.cell? p = some v) (hq : p.block ≠ q) (u0 u1 u2 u3 u4 u5 u6 u7 u8 u9 u10 u11 u12 u13 : Value) : (put14 X q u0 u1 u2 u3 u4 u5 u6 u7 u8 u9 u10 u11 u12 u13).cell? p = some v := (World.cell?_of_block (put14_old hq u0 u1 u2 u3 u4 u5 u6 u7 u8 u9 u10 u11 u12 u13)).trans h
theorem g0_alloc {X : World} {p : Addr} {v : Value} (h : X.cell? p = some v) (o : Obj) : (X.alloc o).cell? p = some v := ((below_alloc (Below.refl _ _) o).cell (World.block_lt_of_cell? _ _ h)).trans h
theorem g0_drew {X : World} {p : Addr} {v : Value} (h : X.cell? p = some v) : X.drew.cell? p = some v := h
set_option maxHeartbeats 4000000 in
set_option maxRecDepth 100000 in
theorem spar_long (s : ByteArray) (r1 r2 r3 : Int) (r4 : ByteArray) (r5 r6 r7 r8 : Int) (r9 : ByteArray) (r10 : List TN) (r11 r12 : Int) (K : Nat) (hp : tree_Parse.f K s = some (r1, r2, r3, r4, r5, r6, r7, r8, r9, r10, r11, r12)) (h2 : r12 = 2) (z : Int) (ww : IntKind.i64.wrap (r11 + 1) = z) : SparBad s z r12 := by
  intro W hG
  have hu := Tryz.underlying40
  have hu2 := Tryz.underlying31
  have HG := Lib.hid hG
  subst h2
  obtain ⟨tp, p, hgl⟩ := HG.out.2
  have HGL := Lib.hid hgl
  have HP := Lib.hid hp
  clear hG hp hgl
  go_enter Tryz.func38, Tryz.ntmps38
  go_upto_region 6 with (first | (go_at_call 14; (with_reducible refine (tree_Parse.calls K s r1 r2 r3 r4 r5 r6 r7 r8 r9 r10 r11 2 (W.alloc sr0) ?sg HP.out).mono ?_); (case sg => exact gl_4_4 (below_alloc (Below.refl _ _) sr0) HG.out.1); rintro e w1 ⟨v9, rfl, hv, hbl⟩; obtain ⟨AA, kk, rfl⟩ := Kd.V_slice hv; have HV := Lib.hid (Kd.V_mono (ok' := fun k => W.heap.size < k) (Kd.V_lower hv (Nat.zero_le _)) (fun k hk => (by simp at hk; omega))); have HB1 := Lib.hid (Below.on3 (Below.refl _ W) hbl (Nat.le_refl _)); have BK1 := Lib.hid (blk_below (blk_new W sr0) hbl); clear hv hbl; obtain ⟨⟨c0, c1, c2, c3, c4, c5, c6, c7, c8, c9, c10, c11, c12, c13⟩, z0, z1, z2, z3, z4, z5, z6, z7, z8, z9, z10, z11, z12, z13⟩ := z14 BK1.out; have hsy : W.heap.size < w1.heap.size := blk_lt BK1.out))
  have hgl := HB1.out.cell (World.block_lt_of_cell? W _ HGL.out) |>.trans HGL.out
  have hlt := World.block_lt_of_cell? _ _ hgl
  have hlt0 := World.block_lt_of_cell? _ _ HGL.out
  have n1 : (0 = W.heap.size) = False := eq_false (by simp at hlt0; omega)
  have n2 : (W.heap.size = 0) = False := eq_false (by simp at hlt0; omega)
  have HK := Lib.hid hgl
  have HNQ := Lib.hid (show 0 ≠ W.heap.size by simp at hlt0; omega)
  go_region_held3 (fun w' => w'.cell? ⟨0, 0, none⟩ = some (.iface tp p)) (with_reducible repeat (first | exact HK.out | refine g0_put14 ?_ HNQ.out _ _ _ _ _ _ _ _ _ _ _ _ _ _ | refine g0_alloc ?_ _ | refine g0_drew ?_ | refine g0_drewN ?_ _)) (fail)
  all_goals go_wp2_with fail
  all_goals (refine bodyPost_ret (results_ct rfl _ _ W.heap.size 40 _ (0, 0) _ rfl (by with_reducible repeat (first | exact put14_blk BK1.out _ _ _ _ _ _ _ _ _ _ _ _ _ _ | exact BK1.out | refine blk_drew ?_ | refine blk_alloc ?_ _)) hu rfl (by kernel_rfl)) rfl ?_)
  all_goals refine ⟨⟨w1.heap.size + 1, .iface tp p, rfl, ?_, by omega⟩, by with_reducible repeat (first | exact HB1.out | refine below_alloc ?_ _ | refine Below.drew ?_ | refine put14_below ?_ (Nat.le_refl _) _ _ _ _ _ _ _ _ _ _ _ _ _ _)⟩
  all_goals with_reducible repeat (first | exact blk_at _ _ _ (by simp [World.setCell]) | refine blk_drew ?_)
set_option maxHeartbeats 4000000 in
set_option maxRecDepth 100000 in
theorem text_other (s : ByteArray) (hs : s.size ≤ 300) (b c : Int) (a b' c' : Int) (d' : ByteArray) (t : TN) (hp : sreadOk s a b' c' d' t) (ha : a ≠ 1) : TextR b c s ((⟨#[39]⟩ : ByteArray) ++ s) := by
  intro W hG
  have hu := Tryz.underlying40
  have hu2 := Tryz.underlying31
  have hu3 := Tryz.underlying24
  have HG := Lib.hid hG
  have HP := Lib.hid hp
  have s1 : (9223372036854775807 < 1 + s.size) = False := eq_false (by omega)
  have s2 : (1 + s.size ≤ 9223372036854775807) = True := eq_true (by omega)
  have s3 : decide (1 + s.size ≤ 9223372036854775807) = true := decide_eq_true (by omega)
  have a1 : (a == 1) = false := beq_eq_false_iff_ne.2 ha
  have a2 : decide (a = 1) = false := decide_eq_false ha
  have a3 : (a = 1) = False := eq_false ha
  clear hG hp hs
  go_enter Tryz.func21, Tryz.ntmps21
  go_wp2_with (first | (go_at_call 22; (with_reducible refine (HP.out (W.alloc (vlO b c s)) ?sg).mono ?_); (case sg => exact gl_5_5 (below_alloc (Below.refl _ _) _) HG.out); rintro e w1 ⟨hret, hbl⟩; have HB1 := Lib.hid (Below.on3 (Below.refl _ W) hbl (Nat.le_refl _)); have BK1 := Lib.hid (blk_below (blk_new W (vlO b c s)) hbl); obtain ⟨v9, rfl, hv⟩ := hret; obtain ⟨AA, kk, rfl⟩ := Kd.V_slice hv; clear hv; clear hbl; obtain ⟨⟨g0, g1, g2⟩, u0, u1, u2⟩ := (show (_ ∧ _ ∧ _) ∧ _ ∧ _ ∧ _ from ⟨⟨(blk_cell BK1.out 0).trans rfl, (blk_cell BK1.out 1).trans rfl, (blk_cell BK1.out 2).trans rfl⟩, blk_frozen BK1.out 0, blk_frozen BK1.out 1, blk_frozen BK1.out 2⟩); have hsy : W.heap.size < w1.heap.size := blk_lt BK1.out))
  go_ret
  exact ⟨rfl, by with_reducible repeat (first | exact HB1.out | refine below_alloc ?_ _)⟩
set_option maxHeartbeats 4000000 in
set_option maxRecDepth 100000 in
theorem text_same (s : ByteArray) (hs : s.size ≤ 300) (b c : Int) (b' c' : Int) (d' : ByteArray) (t : TN) (hp : sreadOk s 1 b' c' d' t) (hsm : value_Same.f b' c' d' b c s = some true) : TextR b c s s := by
  intro W hG
  have hu := Tryz.underlying40
  have hu2 := Tryz.underlying31
  have hu3 := Tryz.underlying24
  have HG := Lib.hid hG
  have HP := Lib.hid hp
  have s1 : (9223372036854775807 < 1 + s.size) = False := eq_false (by omega)
  have s2 : (1 + s.size ≤ 9223372036854775807) = True := eq_true (by omega)
  have s3 : decide (1 + s.size ≤ 9223372036854775807) = true := decide_eq_true (by omega)
  have HS := Lib.hid hsm
  clear hsm
  clear hG hp hs
  go_enter Tryz.func21, Tryz.ntmps21
  go_wp2_with (first | (go_at_call 22; (with_reducible refine (HP.out (W.alloc (vlO b c s)) ?sg).mono ?_); (case sg => exact gl_5_5 (below_alloc (Below.refl _ _) _) HG.out); rintro e w1 ⟨hret, hbl⟩; have HB1 := Lib.hid (Below.on3 (Below.refl _ W) hbl (Nat.le_refl _)); have BK1 := Lib.hid (blk_below (blk_new W (vlO b c s)) hbl); obtain ⟨v9, rfl, hv⟩ := hret; obtain ⟨AA, kk, rfl⟩ := Kd.V_slice hv; clear hv; clear hbl; obtain ⟨⟨g0, g1, g2⟩, u0, u1, u2⟩ := (show (_ ∧ _ ∧ _) ∧ _ ∧ _ ∧ _ from ⟨⟨(blk_cell BK1.out 0).trans rfl, (blk_cell BK1.out 1).trans rfl, (blk_cell BK1.out 2).trans rfl⟩, blk_frozen BK1.out 0, blk_frozen BK1.out 1, blk_frozen BK1.out 2⟩); have hsy : W.heap.size < w1.heap.size := blk_lt BK1.out) | (go_at_call 17; (with_reducible refine (value_Same.calls b' c' d' b c s true _ HS.out).mono ?_); rintro e w2 ⟨rfl, hbl⟩; have HB2 := Lib.hid (Below.on3 HB1.out hbl (Nat.le_refl _)); have BK2 := Lib.hid (blk_below (blk_alloc BK1.out _) hbl); clear hbl g0 g1 g2 u0 u1 u2 hsy; obtain ⟨⟨g0, g1, g2⟩, u0, u1, u2⟩ := (show (_ ∧ _ ∧ _) ∧ _ ∧ _ ∧ _ from ⟨⟨(blk_cell BK2.out 0).trans rfl, (blk_cell BK2.out 1).trans rfl, (blk_cell BK2.out 2).trans rfl⟩, blk_frozen BK2.out 0, blk_frozen BK2.out 1, blk_frozen BK2.out 2⟩); have hsy : W.heap.size < w2.heap.size := blk_lt BK2.out))
  go_ret
  exact ⟨rfl, by with_reducible repeat (first | exact HB2.out | refine below_alloc ?_ _)⟩
set_option maxHeartbeats 4000000 in
set_option maxRecDepth 100000 in
theorem text_unlike (s : ByteArray) (hs : s.size ≤ 300) (b c : Int) (b' c' : Int) (d' : ByteArray) (t : TN) (hp : sreadOk s 1 b' c' d' t) (hsm : value_Same.f b' c' d' b c s = some false) : TextR b c s ((⟨#[39]⟩ : ByteArray) ++ s) := by
  intro W hG
  have hu := Tryz.underlying40
  have hu2 := Tryz.underlying31
  have hu3 := Tryz.underlying24
  have HG := Lib.hid hG
  have HP := Lib.hid hp
  have s1 : (9223372036854775807 < 1 + s.size) = False := eq_false (by omega)
  have s2 : (1 + s.size ≤ 9223372036854775807) = True := eq_true (by omega)
  have s3 : decide (1 + s.size ≤ 9223372036854775807) = true := decide_eq_true (by omega)
  have HS := Lib.hid hsm
  clear hsm
  clear hG hp hs
  go_enter Tryz.func21, Tryz.ntmps21
  go_wp2_with (first | (go_at_call 22; (with_reducible refine (HP.out (W.alloc (vlO b c s)) ?sg).mono ?_); (case sg => exact gl_5_5 (below_alloc (Below.refl _ _) _) HG.out); rintro e w1 ⟨hret, hbl⟩; have HB1 := Lib.hid (Below.on3 (Below.refl _ W) hbl (Nat.le_refl _)); have BK1 := Lib.hid (blk_below (blk_new W (vlO b c s)) hbl); obtain ⟨v9, rfl, hv⟩ := hret; obtain ⟨AA, kk, rfl⟩ := Kd.V_slice hv; clear hv; clear hbl; obtain ⟨⟨g0, g1, g2⟩, u0, u1, u2⟩ := (show (_ ∧ _ ∧ _) ∧ _ ∧ _ ∧ _ from ⟨⟨(blk_cell BK1.out 0).trans rfl, (blk_cell BK1.out 1).trans rfl, (blk_cell BK1.out 2).trans rfl⟩, blk_frozen BK1.out 0, blk_frozen BK1.out 1, blk_frozen BK1.out 2⟩); have hsy : W.heap.size < w1.heap.size := blk_lt BK1.out) | (go_at_call 17; (with_reducible refine (value_Same.calls b' c' d' b c s false _ HS.out).mono ?_); rintro e w2 ⟨rfl, hbl⟩; have HB2 := Lib.hid (Below.on3 HB1.out hbl (Nat.le_refl _)); have BK2 := Lib.hid (blk_below (blk_alloc BK1.out _) hbl); clear hbl g0 g1 g2 u0 u1 u2 hsy; obtain ⟨⟨g0, g1, g2⟩, u0, u1, u2⟩ := (show (_ ∧ _ ∧ _) ∧ _ ∧ _ ∧ _ from ⟨⟨(blk_cell BK2.out 0).trans rfl, (blk_cell BK2.out 1).trans rfl, (blk_cell BK2.out 2).trans rfl⟩, blk_frozen BK2.out 0, blk_frozen BK2.out 1, blk_frozen BK2.out 2⟩); have hsy : W.heap.size < w2.heap.size := blk_lt BK2.out))
  go_ret
  exact ⟨rfl, by with_reducible repeat (first | exact HB2.out | refine below_alloc ?_ _)⟩
set_option maxHeartbeats 4000000 in
set_option maxRecDepth 100000 in
theorem stext_bad (s : ByteArray) (hs : s.size ≤ 300) (b c : Int) (p k : Int) (hp : sreadBad s p k) : TextR b c s ((⟨#[39]⟩ : ByteArray) ++ s) := by
  intro W hG
  have hu := Tryz.underlying40
  have hu2 := Tryz.underlying31
  have hu3 := Tryz.underlying24
  have HG := Lib.hid hG
  have HP := Lib.hid hp
  have s1 : (9223372036854775807 < 1 + s.size) = False := eq_false (by omega)
  have s2 : (1 + s.size ≤ 9223372036854775807) = True := eq_true (by omega)
  have s3 : decide (1 + s.size ≤ 9223372036854775807) = true := decide_eq_true (by omega)
  clear hG hp hs
  go_enter Tryz.func21, Tryz.ntmps21
  go_wp2_with (first | (go_at_call 22; (with_reducible refine (HP.out (W.alloc (vlO b c s)) ?sg).mono ?_); (case sg => exact gl_5_5 (below_alloc (Below.refl _ _) _) HG.out); rintro e w1 ⟨hret, hbl⟩; have HB1 := Lib.hid (Below.on3 (Below.refl _ W) hbl (Nat.le_refl _)); have BK1 := Lib.hid (blk_below (blk_new W (vlO b c s)) hbl); obtain ⟨q, why, rfl, he, hq⟩ := hret; clear he hq; clear hbl; obtain ⟨⟨g0, g1, g2⟩, u0, u1, u2⟩ := (show (_ ∧ _ ∧ _) ∧ _ ∧ _ ∧ _ from ⟨⟨(blk_cell BK1.out 0).trans rfl, (blk_cell BK1.out 1).trans rfl, (blk_cell BK1.out 2).trans rfl⟩, blk_frozen BK1.out 0, blk_frozen BK1.out 1, blk_frozen BK1.out 2⟩); have hsy : W.heap.size < w1.heap.size := blk_lt BK1.out))
  go_ret
  exact ⟨rfl, by with_reducible repeat (first | exact HB1.out | refine below_alloc ?_ _)⟩
end Go.Proofs.YtnomfbmebafolaaGreatDoor.P

namespace Go.Proofs.YtnomfbmebafolaaGreatDoor.P
open Go.RowKit Go.Proofs.YtnomfbmebafolaaGreatDoorW.PrintWords Go.Proofs.YtnomfbmebafolaaGreatDoorW.PrintLast Go.Proofs.YtnomfbmebafolaaGreatDoorW.PrintMore
open M (I64)
set_option linter.unusedVariables false
set_option linter.unusedSimpArgs false
theorem zC14 {w : World} {g : Nat} {t : TypeId} {a0 a1 a2 a3 a4 a5 a6 a7 a8 a9 a10 a11 a12 a13 : Value} (h : w.heap[g]? = some (.cells #[a0, a1, a2, a3, a4, a5, a6, a7, a8, a9, a10, a11, a12, a13] t (0, 0))) : w.cell? ⟨g, 0, none⟩ = some a0 ∧ w.cell? ⟨g, 1, none⟩ = some a1 ∧ w.cell? ⟨g, 2, none⟩ = some a2 ∧ w.cell? ⟨g, 3, none⟩ = some a3 ∧ w.cell? ⟨g, 4, none⟩ = some a4 ∧ w.cell? ⟨g, 5, none⟩ = some a5 ∧ w.cell? ⟨g, 6, none⟩ = some a6 ∧ w.cell? ⟨g, 7, none⟩ = some a7 ∧ w.cell? ⟨g, 8, none⟩ = some a8 ∧ w.cell? ⟨g, 9, none⟩ = some a9 ∧ w.cell? ⟨g, 10, none⟩ = some a10 ∧ w.cell? ⟨g, 11, none⟩ = some a11 ∧ w.cell? ⟨g, 12, none⟩ = some a12 ∧ w.cell? ⟨g, 13, none⟩ = some a13 ∧ w.frozen? ⟨g, 0, none⟩ = false ∧ w.frozen? ⟨g, 1, none⟩ = false ∧ w.frozen? ⟨g, 2, none⟩ = false ∧ w.frozen? ⟨g, 3, none⟩ = false ∧ w.frozen? ⟨g, 4, none⟩ = false ∧ w.frozen? ⟨g, 5, none⟩ = false ∧ w.frozen? ⟨g, 6, none⟩ = false ∧ w.frozen? ⟨g, 7, none⟩ = false ∧ w.frozen? ⟨g, 8, none⟩ = false ∧ w.frozen? ⟨g, 9, none⟩ = false ∧ w.frozen? ⟨g, 10, none⟩ = false ∧ w.frozen? ⟨g, 11, none⟩ = false ∧ w.frozen? ⟨g, 12, none⟩ = false ∧ w.frozen? ⟨g, 13, none⟩ = false := ⟨(blk_cell h 0).trans rfl, (blk_cell h 1).trans rfl, (blk_cell h 2).trans rfl, (blk_cell h 3).trans rfl, (blk_cell h 4).trans rfl, (blk_cell h 5).trans rfl, (blk_cell h 6).trans rfl, (blk_cell h 7).trans rfl, (blk_cell h 8).trans rfl, (blk_cell h 9).trans rfl, (blk_cell h 10).trans rfl, (blk_cell h 11).trans rfl, (blk_cell h 12).trans rfl, (blk_cell h 13).trans rfl, blk_frozen h 0, blk_frozen h 1, blk_frozen h 2, blk_frozen h 3, blk_frozen h 4, blk_frozen h 5, blk_frozen h 6, blk_frozen h 7, blk_frozen h 8, blk_frozen h 9, blk_frozen h 10, blk_frozen h 11, blk_frozen h 12, blk_frozen h 13⟩
abbrev zN : TN := ⟨0, ⟨0, 0, ⟨#[]⟩⟩, ⟨⟨0, 0⟩, ⟨0, 0⟩⟩, ⟨#[]⟩, []⟩
abbrev SrR := Int × Int × Int × ByteArray × Int × Int × Int × ByteArray × Int × Int × Int × Int × ByteArray × (List S31) × Int × Int
def srGood (a b c : Int) (d : ByteArray) (t : TN) : SrR := (a, b, c, d, t.f0, t.f1.f0, t.f1.f1, t.f1.f2, t.f2.f0.f0, t.f2.f0.f1, t.f2.f1.f0, t.f2.f1.f1, t.f3, t.f4, 0, 0)
def srNot (p c : Int) : SrR := (0, 0, 0, ⟨#[]⟩, 0, 0, 0, ⟨#[]⟩, 0, 0, 0, 0, ⟨#[]⟩, [], p, c)
abbrev SrX := (Int × Int × Int × ByteArray × TN) ⊕ (Int × Int)
def sparX (x : NodeR) : Option SrX :=
  if x.2.2.2.2.2.2.2.2.2.2.2 = 0 then some (.inl (2, 0, 0, ⟨#[]⟩, ⟨x.1, ⟨x.2.1, x.2.2.1, x.2.2.2.1⟩, ⟨⟨x.2.2.2.2.1, x.2.2.2.2.2.1⟩, ⟨x.2.2.2.2.2.2.1, x.2.2.2.2.2.2.2.1⟩⟩, x.2.2.2.2.2.2.2.2.1, x.2.2.2.2.2.2.2.2.2.1⟩))
  else some (.inr (IntKind.i64.wrap (x.2.2.2.2.2.2.2.2.2.2.1 + 1), x.2.2.2.2.2.2.2.2.2.2.2))
def stxtX (t : ByteArray) : Option SrX := if (t.size : Int) > 200 then none else some (.inl (1, 3, 0, t, zN))
def sreadF (k : Nat) (s : ByteArray) : Option SrX :=
  if s = (⟨#[]⟩ : ByteArray) then some (.inl (0, 0, 0, ⟨#[]⟩, zN))
  else if 300 < s.size then none
  else if bt s 0 = 61 then (tree_Parse.f k (s.extract 1 s.size)).bind sparX
  else if s = (⟨#[84, 82, 85, 69]⟩ : ByteArray) then some (.inl (1, 1, 1, ⟨#[]⟩, zN))
  else if s = (⟨#[70, 65, 76, 83, 69]⟩ : ByteArray) then some (.inl (1, 1, 0, ⟨#[]⟩, zN))
  else (num_Parse.f s).bind fun r => if r.2 = true then some (.inl (1, 2, r.1, ⟨#[]⟩, zN)) else if bt s 0 = 39 then stxtX (s.extract 1 s.size) else stxtX s
def SrDoes (s : ByteArray) : SrX → Prop
  | .inl (a, b, c, d, t) => sreadOk s a b c d t
  | .inr (p, c) => sreadBad s p c
theorem bt_lt (s : ByteArray) (h : s ≠ (⟨#[]⟩ : ByteArray)) : 0 < s.size := by
  rcases Nat.eq_zero_or_pos s.size with e | e
  · exact absurd (show s = ⟨#[]⟩ from ByteArray.ext (Array.eq_empty_of_size_eq_zero e)) h
  · exact e
theorem sread_does (k : Nat) (s : ByteArray) (r : SrX) (h : sreadF k s = some r) : SrDoes s r := by
  unfold sreadF at h
  by_cases h1 : s = (⟨#[]⟩ : ByteArray)
  · rw [if_pos h1] at h
    obtain rfl := Option.some.inj h
    exact sread_empty s h1
  rw [if_neg h1] at h
  have h0 := bt_lt s h1
  by_cases h2 : 300 < s.size
  · rw [if_pos h2] at h; cases h
  rw [if_neg h2] at h
  have hs : s.size ≤ 300 := by omega
  by_cases h3 : bt s 0 = 61
  · rw [if_pos h3] at h
    obtain ⟨x, hx, hr⟩ := Option.bind_eq_some_iff.1 h
    obtain ⟨r1, r2, r3, r4, r5, r6, r7, r8, r9, r10, r11, r12⟩ := x
    unfold sparX at hr
    by_cases hz : r12 = 0
    · rw [if_pos hz] at hr
      obtain rfl := Option.some.inj hr
      exact sread_eq_ok s hs h0 h3 _ (spar_ok _ r1 r2 r3 r4 r5 r6 r7 r8 r9 r10 r11 r12 k hx hz)
    · rw [if_neg hz] at hr
      obtain rfl := Option.some.inj hr
      by_cases h2 : r12 = 2
      · exact sread_eq_bad s hs h0 h3 _ _ (spar_long _ r1 r2 r3 r4 r5 r6 r7 r8 r9 r10 r11 r12 k hx h2 _ rfl)
      · exact sread_eq_bad s hs h0 h3 _ _ (spar_bad _ r1 r2 r3 r4 r5 r6 r7 r8 r9 r10 r11 r12 k hx hz h2 _ rfl)
  rw [if_neg h3] at h
  by_cases h4 : s = (⟨#[84, 82, 85, 69]⟩ : ByteArray)
  · rw [if_pos h4] at h
    obtain rfl := Option.some.inj h
    exact sread_true s h4
  rw [if_neg h4] at h
  by_cases h5 : s = (⟨#[70, 65, 76, 83, 69]⟩ : ByteArray)
  · rw [if_pos h5] at h
    obtain rfl := Option.some.inj h
    exact sread_false s h5
  rw [if_neg h5] at h
  obtain ⟨⟨n, q⟩, hn, hr⟩ := Option.bind_eq_some_iff.1 h
  cases q with
  | true =>
    dsimp only at hr
    rw [if_pos rfl] at hr
    obtain rfl := Option.some.inj hr
    exact sread_num s hs h0 h3 h4 h5 n hn
  | false =>
    dsimp only at hr
    rw [if_neg (by decide)] at hr
    by_cases h6 : bt s 0 = 39
    · rw [if_pos h6] at hr
      unfold stxtX at hr
      by_cases hz : ((s.extract 1 s.size).size : Int) > 200
      · rw [if_pos hz] at hr; cases hr
      · rw [if_neg hz] at hr
        obtain rfl := Option.some.inj hr
        exact sread_quo s hs h0 h3 h4 h5 n hn h6 hz
    · rw [if_neg h6] at hr
      unfold stxtX at hr
      by_cases hz : (s.size : Int) > 200
      · rw [if_pos hz] at hr; cases hr
      · rw [if_neg hz] at hr
        obtain rfl := Option.some.inj hr
        exact sread_txt s hs h0 h3 h4 h5 n hn h6 hz
def srOut : SrX → SrR
  | .inl (a, b, c, d, t) => srGood a b c d t
  | .inr (p, c) => srNot p c
def source_Read.f (k : Nat) (a0 : ByteArray) : Option SrR := (sreadF k a0).map srOut
theorem source_Read.calls (k : Nat) (a0 : ByteArray) (r1 r2 r3 : Int) (r4 : ByteArray) (r5 r6 r7 : Int) (r8 : ByteArray) (r9 r10 r11 r12 : Int) (r13 : ByteArray) (r14 : List S31) (r15 r16 : Int) (w : World) (hG : G5 w) (h : source_Read.f k a0 = some (r1, r2, r3, r4, r5, r6, r7, r8, r9, r10, r11, r12, r13, r14, r15, r16)) :
    Calls Tryz.prog 9 #[.string a0] w fun e w' => ∃ v13_ : Value, e = .returned (.tuple #[.agg #[.int .i64 r1, .int .i64 r2, .int .i64 r3, .string r4, .int .i64 r5, .int .i64 r6, .int .i64 r7, .string r8, .int .i64 r9, .int .i64 r10, .int .i64 r11, .int .i64 r12, .string r13, v13_], .int .i64 r15, .int .i64 r16]) ∧ Kd.V k31 31 w' w.heap.size (fun k_ => (w.heap.size ≤ k_)) v13_ r14 ∧ Below w.heap.size w w' := by
  obtain ⟨x, hx, hr⟩ := Option.map_eq_some_iff.1 h
  have hd := sread_does k a0 x hx
  cases x with
  | inl x =>
    obtain ⟨a, b, c, d, t⟩ := x
    have hr : srGood a b c d t = _ := hr
    unfold srGood at hr
    cases hr
    refine (sRead_ok a0 _ _ _ _ t hd w hG).mono ?_
    rintro e w' ⟨⟨v9, rfl, hv⟩, hb⟩
    exact ⟨v9, rfl, hv, hb⟩
  | inr x =>
    obtain ⟨p, c⟩ := x
    have hr : srNot p c = _ := hr
    unfold srNot at hr
    cases hr
    refine (sRead_bad a0 _ _ hd w hG).mono ?_
    rintro e w' ⟨rfl, hb⟩
    exact ⟨.slice none 0 0, rfl, Kd.V_nil _ _ _ _ _, hb⟩
def stextO (b c : Int) (s : ByteArray) : SrX → Option ByteArray
  | .inr _ => some ((⟨#[39]⟩ : ByteArray) ++ s)
  | .inl (a, b', c', d', _) => if a = 1 then (value_Same.f b' c' d' b c s).map fun q => if q = true then s else (⟨#[39]⟩ : ByteArray) ++ s else some ((⟨#[39]⟩ : ByteArray) ++ s)
def source_text.f (k : Nat) (a0_0 a0_1 : Int) (a0_2 : ByteArray) : Option ByteArray := if a0_2.size ≤ 300 then (sreadF k a0_2).bind (stextO a0_0 a0_1 a0_2) else none
theorem source_text.calls (k : Nat) (a0_0 a0_1 : Int) (a0_2 : ByteArray) (r : ByteArray) (w : World) (hG : G5 w) (h : source_text.f k a0_0 a0_1 a0_2 = some r) :
    Calls Tryz.prog 21 #[.agg #[.int .i64 a0_0, .int .i64 a0_1, .string a0_2]] w fun e w' => e = .returned (.string r) ∧ Below w.heap.size w w' := by
  unfold source_text.f at h
  by_cases hs : a0_2.size ≤ 300
  · rw [if_pos hs] at h
    obtain ⟨x, hx, hr⟩ := Option.bind_eq_some_iff.1 h
    have hd := sread_does k a0_2 x hx
    cases x with
    | inr x =>
      obtain ⟨p, c⟩ := x
      cases hr
      exact stext_bad a0_2 hs a0_0 a0_1 p c hd w hG
    | inl x =>
      obtain ⟨a, b', c', d', t⟩ := x
      have hr : (if a = 1 then (value_Same.f b' c' d' a0_0 a0_1 a0_2).map fun q => if q = true then a0_2 else (⟨#[39]⟩ : ByteArray) ++ a0_2 else some ((⟨#[39]⟩ : ByteArray) ++ a0_2)) = some r := hr
      by_cases ha : a = 1
      · subst ha
        rw [if_pos rfl] at hr
        obtain ⟨q, hq, hr⟩ := Option.map_eq_some_iff.1 hr
        cases q with
        | true => subst hr; exact text_same a0_2 hs a0_0 a0_1 b' c' d' t hd hq w hG
        | false => subst hr; exact text_unlike a0_2 hs a0_0 a0_1 b' c' d' t hd hq w hG
      · rw [if_neg ha] at hr
        cases hr
        exact text_other a0_2 hs a0_0 a0_1 a b' c' d' t hd ha w hG
  · rw [if_neg hs] at h; cases h
end Go.Proofs.YtnomfbmebafolaaGreatDoor.P

namespace Go.Proofs.YtnomfbmebafolaaGreatDoor.P
open Go.RowKit Go.Proofs.YtnomfbmebafolaaGreatDoorW.PrintWords Go.Proofs.YtnomfbmebafolaaGreatDoorW.PrintLast Go.Proofs.YtnomfbmebafolaaGreatDoorW.PrintMore
set_option linter.unusedVariables false
set_option linter.unusedSimpArgs false
abbrev IsW (B b : Nat) (bs : List Value) (w : World) : Prop := Lib.IsBuilder 50 5 B b bs w
def Keep (b : Nat) (W W' : World) : Prop := ∀ k cs T fr, W.heap[k]? = some (.cells cs T fr) → T ≠ 5 → k ≠ b → W'.heap[k]? = some (.cells cs T fr)
theorem Keep.refl (b : Nat) (W : World) : Keep b W W := fun _ _ _ _ h _ _ => h
theorem Keep.trans {b : Nat} {W V X : World} (h : Keep b W V) (g : Keep b V X) : Keep b W X := fun k cs T fr e h1 h2 => g k cs T fr (h k cs T fr e h1 h2) h1 h2
theorem Keep.below {b : Nat} {W V : World} (h : Below W.heap.size W V) : Keep b W V := fun k cs T fr e _ _ => (h.block k (blk_lt e)).trans e
theorem Keep.set (b : Nat) (W : World) (j : Nat) (u : Value) : Keep b W (W.setCell ⟨b, j, none⟩ u) := fun k cs T fr e _ h2 => (Below.heap_setCell W ⟨b, j, none⟩ u k h2).trans e
theorem w_lies : liesAt Tryz.prog Tryz.prog.depth 50 (2 / Tryz.prog.cellsOf 50) 0 48 1 = true := by kernel_rfl
set_option maxHeartbeats 1000000 in
set_option maxRecDepth 100000 in
theorem w_copy_fresh (b : Nat) (w : World) (h0 : w.cell? ⟨b, 0, none⟩ = some (.pointer none)) (hsh : w.shape? b = some (50, 2)) (hfz : w.frozen? ⟨b, 0, none⟩ = false) :
    Calls Tryz.prog 46 #[.pointer (some ⟨b, 0, none⟩)] w fun e w' => e = .returned (.tuple #[]) ∧ w' = w.setCell ⟨b, 0, none⟩ (.pointer (some ⟨b, 0, none⟩)) := by
  obtain ⟨j, hj, hjs⟩ := Option.map_eq_some_iff.1 bX.sizeBuilder
  have u109 := Tryz.underlying48
  have u107 := Tryz.underlying46
  have u134 := Tryz.underlying109
  go_enter Tryz.func46, Tryz.ntmps46
  go_wp2
  rw [Lib.run_to_unsafe w ⟨b, 0, none⟩ u107 u134 hj (by rw [hjs]; decide) hsh (Nat.zero_lt_succ 1)]
  simp only [Result.andThen]
  rw [Oper.upon_value]
  go_wp2
  rw [run_callFunc_extern Tryz.func68 (by kernel_rfl) (by kernel_rfl) (by kernel_rfl) (e := Extern.AbiNoEscape.same) (by kernel_rfl)]
  rw [Lib.run_noEscape]
  simp only [Result.andThen]
  rw [Oper.upon_value]
  go_wp2
  rw [Lib.run_from_unsafe w ⟨b, 0, none⟩ u134 u107 hj hsh w_lies]
  simp only [Result.andThen]
  rw [Oper.upon_value]
  go_wp2
  go_end0
  exact ⟨rfl, rfl⟩
theorem w_copy (B b : Nat) (bs : List Value) (w : World) (h : IsW B b bs w) :
    Calls Tryz.prog 46 #[.pointer (some ⟨b, 0, none⟩)] w fun e w' => e = .returned (.tuple #[]) ∧ Lib.BuilderAt 50 5 B b (.pointer (some ⟨b, 0, none⟩)) bs w' ∧ Below B w w' ∧ Keep b w w' := by
  rcases h with h | h
  · refine (w_copy_fresh b w h.cell0 h.shape h.frozen0).mono ?_
    rintro e w' ⟨rfl, rfl⟩
    exact ⟨rfl, h.used _, (Below.refl B w).setCell (p := ⟨b, 0, none⟩) h.1 _, Keep.set b w 0 _⟩
  · refine (copy_used b w h.cell0).mono ?_
    rintro e w' ⟨rfl, rfl⟩
    exact ⟨rfl, h, Below.refl B _, Keep.refl b _⟩
set_option maxHeartbeats 2000000 in
set_option maxRecDepth 100000 in
theorem w_string (B b : Nat) (bs : List Value) (s : ByteArray) (w : World) (h : IsW B b bs w) (hlen : bs.length + s.size ≤ 140737488355328) (hBw : B ≤ w.heap.size) :
    Calls Tryz.prog 27 #[.pointer (some ⟨b, 0, none⟩), .string s] w fun e w' => e = .returned (.tuple #[.int .i64 s.size, .nilIface]) ∧ IsW B b (bs ++ Lib.strCells s) w' ∧ Below B w w' ∧ Keep b w w' := by
  obtain ⟨i0, hi, hz0, hz1, hz2⟩ := info_parts bX.infoByte
  have u109 := Tryz.underlying48
  have u107 := Tryz.underlying46
  have u73 := Tryz.underlying35
  have u5 := Tryz.underlying5
  have u9 := Tryz.underlying9
  have hcopy := w_copy B b bs w h
  go_enter Tryz.func27, Tryz.ntmps27
  go_wp2_with (go_at_call 46; refine hcopy.mono ?_)
  rintro e w1 ⟨rfl, h1, hb1, hk1⟩
  obtain ⟨hB, v, hbk, hown, hne⟩ := h1
  have c0 : w1.cell? ⟨b, 0, none⟩ = some (.pointer (some ⟨b, 0, none⟩)) := by rw [Lib.cell_of_heap hbk]; rfl
  have c1 : w1.cell? ⟨b, 1, none⟩ = some v := by rw [Lib.cell_of_heap hbk]; rfl
  go_wp2_with (at_builtin; refine Lib.wpList_append_own_string _ rfl _ _ 35 9 rfl B 5 i0 u73 u9 hi hz0 hz1 hz2 _ _ _ rfl hown s rfl ?c3 ?c4 ?c5 ?_)
  case c3 => unfold maxLen; omega
  case c4 => omega
  case c5 => have := hb1.size; omega
  intro v' w2 hown' hgrow _
  have hlt : b < w1.heap.size := by
    rcases Nat.lt_or_ge b w1.heap.size with h' | h'
    · exact h'
    · simp [Array.getElem?_eq_none h'] at hbk
  have hb2 : w2.heap[b]? = some (.cells #[.pointer (some ⟨b, 0, none⟩), v] 50 (0, 0)) := by
    rw [hgrow.block b hlt (fun e => hne e.symm)]
    exact hbk
  have d0 : w2.cell? ⟨b, 0, none⟩ = some (.pointer (some ⟨b, 0, none⟩)) := by rw [Lib.cell_of_heap hb2]; rfl
  have d1 : w2.cell? ⟨b, 1, none⟩ = some v := by rw [Lib.cell_of_heap hb2]; rfl
  have f1 : w2.frozen? ⟨b, 1, none⟩ = false := Lib.frozen_of_heap hb2 1
  obtain ⟨ao, n', cap, rfl⟩ : ∃ ao n' cap, v' = .slice ao n' cap := by
    rcases hown'.2 with ⟨hv, _⟩ | ⟨g, cap, cur, hv, _⟩
    · exact ⟨_, _, _, hv⟩
    · exact ⟨_, _, _, hv⟩
  have hk2 : Keep b w1 w2 := fun k cs T fr e h1 h2 => by
    rw [hgrow.block k (blk_lt e) (fun eo => ?_)]
    · exact e
    · obtain ⟨cc, fz, ek⟩ := Lib.ownsRow_kind hown k eo.symm
      rw [ek] at e
      cases e
      exact h1 rfl
  go_wp2
  go_ret2
  refine ⟨rfl, .inr ?_, ?_, ?_⟩
  · exact Lib.BuilderAt.put (T := 50) (e := 5) hB hb2 (bs' := bs ++ Lib.strCells s) (by simpa [Lib.strCells_length] using hown') (by decide)
  · exact (hb1.grown hgrow (by have := hb1.size; omega) (fun k hk => (hown.lt k hk).1)).setCell (p := ⟨b, 1, none⟩) hB _
  · exact (hk1.trans hk2).trans (Keep.set b w2 1 _)
set_option maxHeartbeats 2000000 in
set_option maxRecDepth 100000 in
theorem w_len (B b : Nat) (bs : List Value) (w : World) (h : IsW B b bs w) (hlen : bs.length ≤ 140737488355328) :
    Calls Tryz.prog 12 #[.pointer (some ⟨b, 0, none⟩)] w fun e w' => e = .returned (.int .i64 bs.length) ∧ w' = w := by
  obtain ⟨p, hB, v, hbk, hown, hne⟩ : ∃ p, Lib.BuilderAt 50 5 B b p bs w := by
    rcases h with h | h
    · exact ⟨_, h⟩
    · exact ⟨_, h⟩
  have u73 := Tryz.underlying35
  have c1 : w.cell? ⟨b, 1, none⟩ = some v := by rw [Lib.cell_of_heap hbk]; rfl
  obtain ⟨ao, cap, rfl⟩ : ∃ ao cap, v = .slice ao bs.length cap := by
    rcases hown.2 with ⟨hv, hz⟩ | ⟨g, cap, cur, hv, _⟩
    · exact ⟨none, 0, by rw [hv, hz]⟩
    · exact ⟨_, _, hv⟩
  go_enter Tryz.func12, Tryz.ntmps12
  go_wp2
  go_ret
  exact ⟨rfl, rfl⟩
set_option maxHeartbeats 2000000 in
set_option maxRecDepth 100000 in
theorem w_text (B b : Nat) (l : List UInt8) (w : World) (h : IsW B b (Lib.byteCells l) w) (h0 : l ≠ []) :
    Calls Tryz.prog 13 #[.pointer (some ⟨b, 0, none⟩)] w fun e w' => e = .returned (.string ⟨l.toArray⟩) ∧ Below B w w' := by
  obtain ⟨p, hB, v, hbk, hown, hne⟩ : ∃ p, Lib.BuilderAt 50 5 B b p (Lib.byteCells l) w := by
    rcases h with h | h
    · exact ⟨_, h⟩
    · exact ⟨_, h⟩
  have hl0 : l.length ≠ 0 := by simpa using h0
  rw [Lib.byteCells_length] at hown
  obtain ⟨g, cap, cur, rfl, hbg, hg, hnc, hcm, hcs, htake⟩ : ∃ g cap cur, v = .slice (some ⟨g, 0, none⟩) l.length cap ∧ B ≤ g ∧ w.heap[g]? = some (.cells cur 5 (0, 0)) ∧ l.length ≤ cap ∧ cap ≤ maxLen ∧ cur.size = cap * 1 ∧ cur.toList.take (l.length * 1) = Lib.byteCells l := by
    rcases hown.2 with ⟨_, hz⟩ | ⟨g, cap, cur, hv, r⟩
    · exact absurd hz hl0
    · exact ⟨g, cap, cur, hv, r⟩
  have c1 : w.drew.cell? ⟨b, 1, none⟩ = some (.slice (some ⟨g, 0, none⟩) l.length cap) := by
    have : w.drew.heap[b]? = some (.cells #[p, .slice (some ⟨g, 0, none⟩) l.length cap] 50 (0, 0)) := hbk
    rw [Lib.cell_of_heap this]; rfl
  have hSD : (Builtin.unsafeSliceData_ #[35] 75 #[.slice (some ⟨g, 0, none⟩) l.length cap]).run Tryz.prog w.drew = .ok (.pointer (some ⟨g, 0, none⟩)) w.drew :=
    Lib.run_unsafeSliceData_row _ _ _ _ _ _ (by omega)
  have hUS : (Builtin.unsafeString_ #[75, 3] 9 #[.pointer (some ⟨g, 0, none⟩), .int .i64 l.length]).run Tryz.prog w.drew = .ok (.string ⟨l.toArray⟩) (w.drew.freeze ⟨g, 0, none⟩ l.length) := by
    refine Lib.run_unsafeString_row w.drew 75 3 9 5 Tryz.underlying75 bX.cellsByte g cur.size (by have hg' : w.drew.heap[g]? = some (.cells cur 5 (0, 0)) := hg; simp [World.shape?, hg']) l h0 (by omega) (by unfold maxLen at hcm; omega) ?_
    intro j x hx
    have := hown.cells (g := g) rfl j (.int .u8 x.toNat) (by simp [Lib.byteCells, hx])
    exact this
  have u109 := Tryz.underlying48
  have u107 := Tryz.underlying46
  have u73 := Tryz.underlying35
  have u127 := Tryz.underlying75
  have u3 := Tryz.underlying3
  have u9 := Tryz.underlying9
  have mixed : Tryz.prog.follows Departure.mixedOrders = true := by kernel_rfl
  go_enter Tryz.func13, Tryz.ntmps13
  go_wp2
  go_region_o
  all_goals (go_wp2; go_ret; exact ⟨rfl, Lib.below_freeze (Below.drew (Below.refl B w)) (p := ⟨g, 0, none⟩) hbg _⟩)
end Go.Proofs.YtnomfbmebafolaaGreatDoor.P

namespace Go.Proofs.YtnomfbmebafolaaGreatDoor.P
open Go.RowKit Go.Proofs.YtnomfbmebafolaaGreatDoorW.PrintWords Go.Proofs.YtnomfbmebafolaaGreatDoorW.PrintLast Go.Proofs.YtnomfbmebafolaaGreatDoorW.PrintMore
attribute [local go_sem] max2_int min2_int max_two min_two max_three min_three max_four min_four   -- for this text's walks alone
set_option linter.unusedVariables false
set_option linter.unusedSimpArgs false
mutual
def print_binary.j0 : Nat → Int → ByteArray → Bool → Option (Int)
  | 0, _, _, _ => none
  | k + 1, x3, x4, x7 => if x7 = true then (some (wrap64 ((wrap64 ((wrap64 (x3 + 1)) + 1)) + 1))) else (if x4.toList = ([43] : List UInt8) then (print_binary.j1 k x3 x4 (x4.toList == ([43] : List UInt8))) else (if x4.toList = ([45] : List UInt8) then (print_binary.j1 k x3 x4 (x4.toList == ([45] : List UInt8))) else (print_binary.j1 k x3 x4 (x4.toList == ([38] : List UInt8)))))
def print_binary.j1 : Nat → Int → ByteArray → Bool → Option (Int)
  | 0, _, _, _ => none
  | k + 1, x3, x4, x11 => if x11 = true then (some (wrap64 ((wrap64 (x3 + 1)) + 1))) else (if x4.toList = ([61] : List UInt8) then (some (wrap64 (x3 + 1))) else (if x4.toList = ([60, 62] : List UInt8) then (some (wrap64 (x3 + 1))) else (if x4.toList = ([60] : List UInt8) then (some (wrap64 (x3 + 1))) else (if x4.toList = ([60, 61] : List UInt8) then (some (wrap64 (x3 + 1))) else (if x4.toList = ([62] : List UInt8) then (some (wrap64 (x3 + 1))) else (if x4.toList = ([62, 61] : List UInt8) then (some (wrap64 (x3 + 1))) else (some x3)))))))
end
def print_binary.f (k : Nat) (a0 : ByteArray) : Option (Int) := if a0.toList = ([94] : List UInt8) then (some ((((0 + 1) + 1) + 1) + 1)) else (if a0.toList = ([42] : List UInt8) then (print_binary.j0 k 0 a0 (a0.toList == ([42] : List UInt8))) else (if a0.toList = ([47] : List UInt8) then (print_binary.j0 k 0 a0 (a0.toList == ([47] : List UInt8))) else (print_binary.j0 k 0 a0 (a0.toList == ([37] : List UInt8)))))
set_option maxHeartbeats 8000000 in
set_option maxRecDepth 100000 in
theorem print_binary.calls (k : Nat) (a0 : ByteArray) (r : Int) (w : World) (h : print_binary.f k a0 = some r) :
    Calls Tryz.prog 34 #[.string a0] w fun e w' => e = .returned (.int .i64 r) ∧ Drawn0 w w' := by
  have H : (if a0.toList = ([94] : List UInt8) then (some ((((0 + 1) + 1) + 1) + 1)) else (if a0.toList = ([42] : List UInt8) then (print_binary.j0 k 0 a0 (a0.toList == ([42] : List UInt8))) else (if a0.toList = ([47] : List UInt8) then (print_binary.j0 k 0 a0 (a0.toList == ([47] : List UInt8))) else (print_binary.j0 k 0 a0 (a0.toList == ([37] : List UInt8)))))) = some r := h
  clear h
  by_cases c2 : a0.toList = ([94] : List UInt8)
  · rw [if_pos c2] at H
    have c2b0 : (a0.toList == ([94] : List UInt8)) = true := beq_iff_eq.mpr c2
    have c2b1 : (a0.toList != ([94] : List UInt8)) = false := bne_eq_false_iff_eq.mpr c2
    clear c2
    obtain rfl := Option.some.inj H
    go_enter Tryz.func34, Tryz.ntmps34
    go_wp2
    go_ret
    exact ⟨by first | rfl | (simp; done) | (simp [*]; done) | exact congrArg (fun z => Ending.returned (Value.int IntKind.i64 z)) (by decide +kernel), by repeat (first | exact Drawn0.refl _ | apply Drawn0.step)⟩
  · rw [if_neg c2] at H
    have c2b0 : (a0.toList == ([94] : List UInt8)) = false := beq_eq_false_iff_ne.mpr c2
    have c2b1 : (a0.toList != ([94] : List UInt8)) = true := bne_iff_ne.mpr c2
    have HC3 := Aside0.mk H
    clear H
    go_enter Tryz.func34, Tryz.ntmps34
    go_upto_if 7 with (fail)
    go_cut [7] (fun v7 wc => ∃ (kq : Nat) (x7_2 : Bool), v7 = .bool x7_2 ∧ Aside0 (print_binary.j0 kq 0 a0 x7_2 = some r) ∧ Aside0 (kq ≤ k) ∧ Drawn0 w wc)
    case first =>
      have H := HC3.out
      clear HC3
      by_cases c4 : a0.toList = ([42] : List UInt8)
      · rw [if_pos c4] at H
        have c4b0 : (a0.toList == ([42] : List UInt8)) = true := beq_iff_eq.mpr c4
        have c4b1 : (a0.toList != ([42] : List UInt8)) = false := bne_eq_false_iff_eq.mpr c4
        clear c4
        (first | rw [c4b0] | (simp only [i64_w, i32_w]; rw [c4b0]) | skip)
        have H' := Aside0.mk H
        clear H
        go_wp2
        go_meet
        case rel => exact ⟨_, ((a0.toList == ([42] : List UInt8))), zz27, H', ⟨by first | omega | exact Nat.le_refl _⟩, by repeat (first | exact Drawn0.refl _ | apply Drawn0.step)⟩
      · rw [if_neg c4] at H
        have c4b0 : (a0.toList == ([42] : List UInt8)) = false := beq_eq_false_iff_ne.mpr c4
        have c4b1 : (a0.toList != ([42] : List UInt8)) = true := bne_iff_ne.mpr c4
        (first | rw [c4b0] | (simp only [i64_w, i32_w]; rw [c4b0]) | skip)
        by_cases c5 : a0.toList = ([47] : List UInt8)
        · rw [if_pos c5] at H
          have c5b0 : (a0.toList == ([47] : List UInt8)) = true := beq_iff_eq.mpr c5
          have c5b1 : (a0.toList != ([47] : List UInt8)) = false := bne_eq_false_iff_eq.mpr c5
          clear c5
          have H' := Aside0.mk H
          clear H
          go_wp2
          go_meet
          case rel => exact ⟨_, ((a0.toList == ([47] : List UInt8))), zz27, H', ⟨by first | omega | exact Nat.le_refl _⟩, by repeat (first | exact Drawn0.refl _ | apply Drawn0.step)⟩
        · rw [if_neg c5] at H
          have c5b0 : (a0.toList == ([47] : List UInt8)) = false := beq_eq_false_iff_ne.mpr c5
          have c5b1 : (a0.toList != ([47] : List UInt8)) = true := bne_iff_ne.mpr c5
          have H' := Aside0.mk H
          clear H
          go_wp2
          go_meet
          case rel => exact ⟨_, ((a0.toList == ([37] : List UInt8))), zz27, H', ⟨by first | omega | exact Nat.le_refl _⟩, by repeat (first | exact Drawn0.refl _ | apply Drawn0.step)⟩
    case rest =>
      clear HC3
      try clear c2
      try clear c2b0
      try clear c2b1
      try clear p2
      try clear c3
      try clear c4
      try clear c4b0
      try clear c4b1
      try clear c5
      try clear c5b0
      try clear c5b1
      obtain ⟨kq, x7_2, rfl, HA, HJ2, ⟨mc2, rfl⟩⟩ := hcut
      cases kq with
      | zero => exact absurd HA.out (by simp [print_binary.j0])
      | succ kj2 =>
        have H := HA.out
        clear HA
        simp only [print_binary.j0] at H
        by_cases c6 : x7_2 = true
        · subst c6
          have H1 : (some (wrap64 ((wrap64 ((wrap64 (0 + 1)) + 1)) + 1))) = some r := by rw [if_pos rfl] at H; exact H
          clear H
          have H := H1
          clear H1
          obtain rfl := Option.some.inj H
          go_wp2
          go_ret
          exact ⟨by first | rfl | (simp; done) | (simp [*]; done) | exact congrArg (fun z => Ending.returned (Value.int IntKind.i64 z)) (by decide +kernel), by repeat (first | exact Drawn0.refl _ | apply Drawn0.step)⟩
        · replace c6 := Bool.eq_false_iff.mpr c6
          subst c6
          have H1 : (if a0.toList = ([43] : List UInt8) then (print_binary.j1 kj2 0 a0 (a0.toList == ([43] : List UInt8))) else (if a0.toList = ([45] : List UInt8) then (print_binary.j1 kj2 0 a0 (a0.toList == ([45] : List UInt8))) else (print_binary.j1 kj2 0 a0 (a0.toList == ([38] : List UInt8))))) = some r := by rw [if_neg (show ¬ (false = true) by decide)] at H; exact H
          clear H
          have H := H1
          clear H1
          have HC7 := Aside0.mk H
          clear H
          go_upto_if 11 with (fail)
          go_cut [11] (fun v11 wc => ∃ (kq : Nat) (x11_6 : Bool), v11 = .bool x11_6 ∧ Aside0 (print_binary.j1 kq 0 a0 x11_6 = some r) ∧ Aside0 (kq ≤ kj2) ∧ Drawn0 w wc)
          case first =>
            have H := HC7.out
            clear HC7
            by_cases c8 : a0.toList = ([43] : List UInt8)
            · rw [if_pos c8] at H
              have c8b0 : (a0.toList == ([43] : List UInt8)) = true := beq_iff_eq.mpr c8
              have c8b1 : (a0.toList != ([43] : List UInt8)) = false := bne_eq_false_iff_eq.mpr c8
              clear c8
              (first | rw [c8b0] | (simp only [i64_w, i32_w]; rw [c8b0]) | skip)
              have H' := Aside0.mk H
              clear H
              go_wp2
              go_meet
              case rel => exact ⟨_, ((a0.toList == ([43] : List UInt8))), zz27, H', ⟨by have := HJ2.out; first | omega | exact Nat.le_refl _⟩, by repeat (first | exact Drawn0.refl _ | apply Drawn0.step)⟩
            · rw [if_neg c8] at H
              have c8b0 : (a0.toList == ([43] : List UInt8)) = false := beq_eq_false_iff_ne.mpr c8
              have c8b1 : (a0.toList != ([43] : List UInt8)) = true := bne_iff_ne.mpr c8
              (first | rw [c8b0] | (simp only [i64_w, i32_w]; rw [c8b0]) | skip)
              by_cases c9 : a0.toList = ([45] : List UInt8)
              · rw [if_pos c9] at H
                have c9b0 : (a0.toList == ([45] : List UInt8)) = true := beq_iff_eq.mpr c9
                have c9b1 : (a0.toList != ([45] : List UInt8)) = false := bne_eq_false_iff_eq.mpr c9
                clear c9
                have H' := Aside0.mk H
                clear H
                go_wp2
                go_meet
                case rel => exact ⟨_, ((a0.toList == ([45] : List UInt8))), zz27, H', ⟨by have := HJ2.out; first | omega | exact Nat.le_refl _⟩, by repeat (first | exact Drawn0.refl _ | apply Drawn0.step)⟩
              · rw [if_neg c9] at H
                have c9b0 : (a0.toList == ([45] : List UInt8)) = false := beq_eq_false_iff_ne.mpr c9
                have c9b1 : (a0.toList != ([45] : List UInt8)) = true := bne_iff_ne.mpr c9
                have H' := Aside0.mk H
                clear H
                go_wp2
                go_meet
                case rel => exact ⟨_, ((a0.toList == ([38] : List UInt8))), zz27, H', ⟨by have := HJ2.out; first | omega | exact Nat.le_refl _⟩, by repeat (first | exact Drawn0.refl _ | apply Drawn0.step)⟩
          case rest =>
            clear HC7
            try clear c2
            try clear c2b0
            try clear c2b1
            try clear p2
            try clear c3
            try clear c4
            try clear c4b0
            try clear c4b1
            try clear c5
            try clear c5b0
            try clear c5b1
            try clear c6
            try clear p6
            try clear c8
            try clear c8b0
            try clear c8b1
            try clear c9
            try clear c9b0
            try clear c9b1
            try clear p2
            obtain ⟨kq, x11_6, rfl, HA, HJ6, ⟨mc6, rfl⟩⟩ := hcut
            cases kq with
            | zero => exact absurd HA.out (by simp [print_binary.j1])
            | succ kj6 =>
              have H := HA.out
              clear HA
              simp only [print_binary.j1] at H
              by_cases c10 : x11_6 = true
              · subst c10
                have H1 : (some (wrap64 ((wrap64 (0 + 1)) + 1))) = some r := by rw [if_pos rfl] at H; exact H
                clear H
                have H := H1
                clear H1
                obtain rfl := Option.some.inj H
                go_wp2
                go_ret
                exact ⟨by first | rfl | (simp; done) | (simp [*]; done) | exact congrArg (fun z => Ending.returned (Value.int IntKind.i64 z)) (by decide +kernel), by repeat (first | exact Drawn0.refl _ | apply Drawn0.step)⟩
              · replace c10 := Bool.eq_false_iff.mpr c10
                subst c10
                have H1 : (if a0.toList = ([61] : List UInt8) then (some (wrap64 (0 + 1))) else (if a0.toList = ([60, 62] : List UInt8) then (some (wrap64 (0 + 1))) else (if a0.toList = ([60] : List UInt8) then (some (wrap64 (0 + 1))) else (if a0.toList = ([60, 61] : List UInt8) then (some (wrap64 (0 + 1))) else (if a0.toList = ([62] : List UInt8) then (some (wrap64 (0 + 1))) else (if a0.toList = ([62, 61] : List UInt8) then (some (wrap64 (0 + 1))) else (some 0))))))) = some r := by rw [if_neg (show ¬ (false = true) by decide)] at H; exact H
                clear H
                have H := H1
                clear H1
                by_cases c11 : a0.toList = ([61] : List UInt8)
                · rw [if_pos c11] at H
                  have c11b0 : (a0.toList == ([61] : List UInt8)) = true := beq_iff_eq.mpr c11
                  have c11b1 : (a0.toList != ([61] : List UInt8)) = false := bne_eq_false_iff_eq.mpr c11
                  clear c11
                  obtain rfl := Option.some.inj H
                  go_wp2
                  go_ret
                  exact ⟨by first | rfl | (simp; done) | (simp [*]; done) | exact congrArg (fun z => Ending.returned (Value.int IntKind.i64 z)) (by decide +kernel), by repeat (first | exact Drawn0.refl _ | apply Drawn0.step)⟩
                · rw [if_neg c11] at H
                  have c11b0 : (a0.toList == ([61] : List UInt8)) = false := beq_eq_false_iff_ne.mpr c11
                  have c11b1 : (a0.toList != ([61] : List UInt8)) = true := bne_iff_ne.mpr c11
                  by_cases c12 : a0.toList = ([60, 62] : List UInt8)
                  · rw [if_pos c12] at H
                    have c12b0 : (a0.toList == ([60, 62] : List UInt8)) = true := beq_iff_eq.mpr c12
                    have c12b1 : (a0.toList != ([60, 62] : List UInt8)) = false := bne_eq_false_iff_eq.mpr c12
                    clear c12
                    obtain rfl := Option.some.inj H
                    go_wp2
                    go_ret
                    exact ⟨by first | rfl | (simp; done) | (simp [*]; done) | exact congrArg (fun z => Ending.returned (Value.int IntKind.i64 z)) (by decide +kernel), by repeat (first | exact Drawn0.refl _ | apply Drawn0.step)⟩
                  · rw [if_neg c12] at H
                    have c12b0 : (a0.toList == ([60, 62] : List UInt8)) = false := beq_eq_false_iff_ne.mpr c12
                    have c12b1 : (a0.toList != ([60, 62] : List UInt8)) = true := bne_iff_ne.mpr c12
                    by_cases c13 : a0.toList = ([60] : List UInt8)
                    · rw [if_pos c13] at H
                      have c13b0 : (a0.toList == ([60] : List UInt8)) = true := beq_iff_eq.mpr c13
                      have c13b1 : (a0.toList != ([60] : List UInt8)) = false := bne_eq_false_iff_eq.mpr c13
                      clear c13
                      obtain rfl := Option.some.inj H
                      go_wp2
                      go_ret
                      exact ⟨by first | rfl | (simp; done) | (simp [*]; done) | exact congrArg (fun z => Ending.returned (Value.int IntKind.i64 z)) (by decide +kernel), by repeat (first | exact Drawn0.refl _ | apply Drawn0.step)⟩
                    · rw [if_neg c13] at H
                      have c13b0 : (a0.toList == ([60] : List UInt8)) = false := beq_eq_false_iff_ne.mpr c13
                      have c13b1 : (a0.toList != ([60] : List UInt8)) = true := bne_iff_ne.mpr c13
                      by_cases c14 : a0.toList = ([60, 61] : List UInt8)
                      · rw [if_pos c14] at H
                        have c14b0 : (a0.toList == ([60, 61] : List UInt8)) = true := beq_iff_eq.mpr c14
                        have c14b1 : (a0.toList != ([60, 61] : List UInt8)) = false := bne_eq_false_iff_eq.mpr c14
                        clear c14
                        obtain rfl := Option.some.inj H
                        go_wp2
                        go_ret
                        exact ⟨by first | rfl | (simp; done) | (simp [*]; done) | exact congrArg (fun z => Ending.returned (Value.int IntKind.i64 z)) (by decide +kernel), by repeat (first | exact Drawn0.refl _ | apply Drawn0.step)⟩
                      · rw [if_neg c14] at H
                        have c14b0 : (a0.toList == ([60, 61] : List UInt8)) = false := beq_eq_false_iff_ne.mpr c14
                        have c14b1 : (a0.toList != ([60, 61] : List UInt8)) = true := bne_iff_ne.mpr c14
                        by_cases c15 : a0.toList = ([62] : List UInt8)
                        · rw [if_pos c15] at H
                          have c15b0 : (a0.toList == ([62] : List UInt8)) = true := beq_iff_eq.mpr c15
                          have c15b1 : (a0.toList != ([62] : List UInt8)) = false := bne_eq_false_iff_eq.mpr c15
                          clear c15
                          obtain rfl := Option.some.inj H
                          go_wp2
                          go_ret
                          exact ⟨by first | rfl | (simp; done) | (simp [*]; done) | exact congrArg (fun z => Ending.returned (Value.int IntKind.i64 z)) (by decide +kernel), by repeat (first | exact Drawn0.refl _ | apply Drawn0.step)⟩
                        · rw [if_neg c15] at H
                          have c15b0 : (a0.toList == ([62] : List UInt8)) = false := beq_eq_false_iff_ne.mpr c15
                          have c15b1 : (a0.toList != ([62] : List UInt8)) = true := bne_iff_ne.mpr c15
                          by_cases c16 : a0.toList = ([62, 61] : List UInt8)
                          · rw [if_pos c16] at H
                            have c16b0 : (a0.toList == ([62, 61] : List UInt8)) = true := beq_iff_eq.mpr c16
                            have c16b1 : (a0.toList != ([62, 61] : List UInt8)) = false := bne_eq_false_iff_eq.mpr c16
                            clear c16
                            obtain rfl := Option.some.inj H
                            go_wp2
                            go_ret
                            exact ⟨by first | rfl | (simp; done) | (simp [*]; done) | exact congrArg (fun z => Ending.returned (Value.int IntKind.i64 z)) (by decide +kernel), by repeat (first | exact Drawn0.refl _ | apply Drawn0.step)⟩
                          · rw [if_neg c16] at H
                            have c16b0 : (a0.toList == ([62, 61] : List UInt8)) = false := beq_eq_false_iff_ne.mpr c16
                            have c16b1 : (a0.toList != ([62, 61] : List UInt8)) = true := bne_iff_ne.mpr c16
                            obtain rfl := Option.some.inj H
                            go_wp2
                            go_ret
                            exact ⟨by first | rfl | (simp; done) | (simp [*]; done) | exact congrArg (fun z => Ending.returned (Value.int IntKind.i64 z)) (by decide +kernel), by repeat (first | exact Drawn0.refl _ | apply Drawn0.step)⟩
end Go.Proofs.YtnomfbmebafolaaGreatDoor.P

namespace Go.Proofs.YtnomfbmebafolaaGreatDoor.P
open Go.RowKit Go.Proofs.YtnomfbmebafolaaGreatDoorW.PrintWords Go.Proofs.YtnomfbmebafolaaGreatDoorW.PrintLast Go.Proofs.YtnomfbmebafolaaGreatDoorW.PrintMore
attribute [local go_sem] max2_int min2_int max_two min_two max_three min_three max_four min_four   -- for this text's walks alone
set_option linter.unusedVariables false
set_option linter.unusedSimpArgs false
def print_Row.j0 : Nat → Int → Int → Bool → Int → Int → Int → ByteArray → Int → Int → Int → Int → ByteArray → List (S31) → Option (Int)
  | 0, _, _, _, _, _, _, _, _, _, _, _, _, _ => none
  | k + 1, x3, x5, x6, x186000, x186001, x186002, x186003, x186004, x186005, x186006, x186007, x186008, x186009 => if x6 = true then (some (wrap64 ((wrap64 (x3 + 1)) + 5))) else (if x5 = 4 then (some (wrap64 (x3 + 5))) else (if x5 = 5 then ((print_binary.f k x186008).bind fun t186 => (some t186)) else (some x3)))
def print_Row.f (k : Nat) (a0_0 : Int) (a0_1 : Int) (a0_2 : Int) (a0_3 : ByteArray) (a0_4 : Int) (a0_5 : Int) (a0_6 : Int) (a0_7 : Int) (a0_8 : ByteArray) (l0_9 : List (S31)) : Option (Int) := if a0_0 = 1 then (print_Row.j0 k 0 a0_0 (a0_0 == 1) a0_0 a0_1 a0_2 a0_3 a0_4 a0_5 a0_6 a0_7 a0_8 l0_9) else (if a0_0 = 2 then (print_Row.j0 k 0 a0_0 (a0_0 == 2) a0_0 a0_1 a0_2 a0_3 a0_4 a0_5 a0_6 a0_7 a0_8 l0_9) else (if a0_0 = 3 then (print_Row.j0 k 0 a0_0 (a0_0 == 3) a0_0 a0_1 a0_2 a0_3 a0_4 a0_5 a0_6 a0_7 a0_8 l0_9) else (print_Row.j0 k 0 a0_0 (a0_0 == 6) a0_0 a0_1 a0_2 a0_3 a0_4 a0_5 a0_6 a0_7 a0_8 l0_9)))
set_option maxHeartbeats 8000000 in
set_option maxRecDepth 100000 in
theorem print_Row.calls (k : Nat) (a0_0 : Int) (a0_1 : Int) (a0_2 : Int) (a0_3 : ByteArray) (a0_4 : Int) (a0_5 : Int) (a0_6 : Int) (a0_7 : Int) (a0_8 : ByteArray) (A0_9 : Option Addr) (c0_9 : Nat) (l0_9 : List (S31)) (r : Int) (w : World) (hr0_9 : Kd.C k31 w A0_9 l0_9.length l0_9) (hc0_9 : l0_9.length ≤ c0_9) (h : print_Row.f k a0_0 a0_1 a0_2 a0_3 a0_4 a0_5 a0_6 a0_7 a0_8 l0_9 = some r) :
    Calls Tryz.prog 15 #[.agg #[.int .i64 a0_0, .int .i64 a0_1, .int .i64 a0_2, .string a0_3, .int .i64 a0_4, .int .i64 a0_5, .int .i64 a0_6, .int .i64 a0_7, .string a0_8, .slice A0_9 l0_9.length c0_9]] w fun e w' => e = .returned (.int .i64 r) ∧ Below w.heap.size w w' := by
  have hu31 := Tryz.underlying31
  have HR0_9 := Aside0.mk hr0_9
  have HC0_9 := Aside0.mk hc0_9
  clear hr0_9 hc0_9
  have HB := Aside0.mk (Below.refl w.heap.size w)
  have H : (if a0_0 = 1 then (print_Row.j0 k 0 a0_0 (a0_0 == 1) a0_0 a0_1 a0_2 a0_3 a0_4 a0_5 a0_6 a0_7 a0_8 l0_9) else (if a0_0 = 2 then (print_Row.j0 k 0 a0_0 (a0_0 == 2) a0_0 a0_1 a0_2 a0_3 a0_4 a0_5 a0_6 a0_7 a0_8 l0_9) else (if a0_0 = 3 then (print_Row.j0 k 0 a0_0 (a0_0 == 3) a0_0 a0_1 a0_2 a0_3 a0_4 a0_5 a0_6 a0_7 a0_8 l0_9) else (print_Row.j0 k 0 a0_0 (a0_0 == 6) a0_0 a0_1 a0_2 a0_3 a0_4 a0_5 a0_6 a0_7 a0_8 l0_9)))) = some r := h
  clear h
  have HC2 := Aside0.mk H
  clear H
  go_enter Tryz.func15, Tryz.ntmps15
  go_upto_if 6 with (first | ((with_reducible refine gate_dst (N := 1) rfl ?_); refine box_event ?hg (N := 1) ?hd (cs := #[.int .i64 a0_0, .int .i64 a0_1, .int .i64 a0_2, .string a0_3, .int .i64 a0_4, .int .i64 a0_5, .int .i64 a0_6, .int .i64 a0_7, .string a0_8, .slice A0_9 l0_9.length c0_9]) (t := 31) ?hr ?_; (case hd => rfl); (case hg => rfl); (case hr => first | (go_simp; done) | (go_simp; rfl)); intro gb185 hg w3 hbox hb; have n0_ := Aside0.mk (below_step zz1 hb); have n1_ := Aside0.mk (hbox); have n2_ := Aside0.mk ((by rw [hg]; exact (below_size zz1) : w.heap.size ≤ gb185)); have n3_ := n2_; clear HB; have HB := n0_; have BK185 := n1_; have GW185 := n2_; have GE185 := n3_; clear n0_ n1_ n2_ n3_; clear hb hbox hg; obtain ⟨hcz4_0, hcz4_1, hcz4_2, hcz4_3, hcz4_4, hcz4_5, hcz4_6, hcz4_7, hcz4_8, hcz4_9, hfz4_0, hfz4_1, hfz4_2, hfz4_3, hfz4_4, hfz4_5, hfz4_6, hfz4_7, hfz4_8, hfz4_9⟩ := zC10 BK185.out))
  (try simp only [Act.put, List.setIfInBounds_toArray, List.set_cons_zero, List.set_cons_succ])
  go_cut [6] (fun v6 wc => ∃ (kq : Nat) (x6_1 : Bool), v6 = .bool x6_1 ∧ Aside0 (print_Row.j0 kq 0 a0_0 x6_1 a0_0 a0_1 a0_2 a0_3 a0_4 a0_5 a0_6 a0_7 a0_8 l0_9 = some r) ∧ Aside0 (kq ≤ k) ∧ Aside0 (wc.heap[gb185]? = some (.cells #[.int .i64 a0_0, .int .i64 a0_1, .int .i64 a0_2, .string a0_3, .int .i64 a0_4, .int .i64 a0_5, .int .i64 a0_6, .int .i64 a0_7, .string a0_8, (.slice A0_9 l0_9.length c0_9)] 31 (0, 0))) ∧ Aside0 (Below w.heap.size w wc))
  case first =>
    have H := HC2.out
    clear HC2
    by_cases c5 : a0_0 = 1
    · rw [if_pos c5] at H
      have c5b0 : (a0_0 == 1) = true := beq_iff_eq.mpr c5
      have c5b1 : (a0_0 != 1) = false := bne_eq_false_iff_eq.mpr c5
      clear c5
      (first | rw [c5b0] | (simp only [i64_w, i32_w]; rw [c5b0]) | skip)
      have H' := Aside0.mk H
      clear H
      go_wp2
      go_meet
      case rel => exact ⟨_, ((a0_0 == 1)), zz27, H', ⟨by first | omega | exact Nat.le_refl _⟩, ⟨by exact zB BK185.out⟩, ⟨zz11⟩⟩
    · rw [if_neg c5] at H
      have c5b0 : (a0_0 == 1) = false := beq_eq_false_iff_ne.mpr c5
      have c5b1 : (a0_0 != 1) = true := bne_iff_ne.mpr c5
      (first | rw [c5b0] | (simp only [i64_w, i32_w]; rw [c5b0]) | skip)
      by_cases c6 : a0_0 = 2
      · rw [if_pos c6] at H
        have c6b0 : (a0_0 == 2) = true := beq_iff_eq.mpr c6
        have c6b1 : (a0_0 != 2) = false := bne_eq_false_iff_eq.mpr c6
        clear c6
        have H' := Aside0.mk H
        clear H
        go_wp2
        go_meet
        case rel => exact ⟨_, ((a0_0 == 2)), zz27, H', ⟨by first | omega | exact Nat.le_refl _⟩, ⟨by exact zB BK185.out⟩, ⟨zz11⟩⟩
      · rw [if_neg c6] at H
        have c6b0 : (a0_0 == 2) = false := beq_eq_false_iff_ne.mpr c6
        have c6b1 : (a0_0 != 2) = true := bne_iff_ne.mpr c6
        by_cases c7 : a0_0 = 3
        · rw [if_pos c7] at H
          have c7b0 : (a0_0 == 3) = true := beq_iff_eq.mpr c7
          have c7b1 : (a0_0 != 3) = false := bne_eq_false_iff_eq.mpr c7
          clear c7
          have H' := Aside0.mk H
          clear H
          go_wp2
          go_meet
          case rel => exact ⟨_, ((a0_0 == 3)), zz27, H', ⟨by first | omega | exact Nat.le_refl _⟩, ⟨by exact zB BK185.out⟩, ⟨zz11⟩⟩
        · rw [if_neg c7] at H
          have c7b0 : (a0_0 == 3) = false := beq_eq_false_iff_ne.mpr c7
          have c7b1 : (a0_0 != 3) = true := bne_iff_ne.mpr c7
          have H' := Aside0.mk H
          clear H
          go_wp2
          go_meet
          case rel => exact ⟨_, ((a0_0 == 6)), zz27, H', ⟨by first | omega | exact Nat.le_refl _⟩, ⟨by exact zB BK185.out⟩, ⟨zz11⟩⟩
  case rest =>
    clear HC2
    try clear c1
    try clear p2
    try clear c5
    try clear c5b0
    try clear c5b1
    try clear c6
    try clear c6b0
    try clear c6b1
    try clear c7
    try clear c7b0
    try clear c7b1
    try clear hcz4_0
    try clear hcz4_1
    try clear hcz4_2
    try clear hcz4_3
    try clear hcz4_4
    try clear hcz4_5
    try clear hcz4_6
    try clear hcz4_7
    try clear hcz4_8
    try clear hcz4_9
    try clear hfz4_0
    try clear hfz4_1
    try clear hfz4_2
    try clear hfz4_3
    try clear hfz4_4
    try clear hfz4_5
    try clear hfz4_6
    try clear hfz4_7
    try clear hfz4_8
    try clear hfz4_9
    obtain ⟨kq, x6_1, rfl, HA, HJ1, BK185, HB⟩ := hcut
    cases kq with
    | zero => exact absurd HA.out (by simp [print_Row.j0])
    | succ kj1 =>
      have H := HA.out
      clear HA
      simp only [print_Row.j0] at H
      by_cases c8 : x6_1 = true
      · subst c8
        have H1 : (some (wrap64 ((wrap64 (0 + 1)) + 5))) = some r := by rw [if_pos rfl] at H; exact H
        clear H
        have H := H1
        clear H1
        obtain rfl := Option.some.inj H
        go_wp2
        go_ret
        exact ⟨by first | rfl | exact congrArg (fun z => Ending.returned (Value.int IntKind.i64 z)) (by decide +kernel) | (simp [errW_none, errW_some] <;> rfl) | (simp [*, errW_none, errW_some] <;> rfl), zz11⟩
      · replace c8 := Bool.eq_false_iff.mpr c8
        subst c8
        have H1 : (if a0_0 = 4 then (some (wrap64 (0 + 5))) else (if a0_0 = 5 then ((print_binary.f kj1 a0_8).bind fun t186 => (some t186)) else (some 0))) = some r := by rw [if_neg (show ¬ (false = true) by decide)] at H; exact H
        clear H
        have H := H1
        clear H1
        by_cases c9 : a0_0 = 4
        · rw [if_pos c9] at H
          have c9b0 : (a0_0 == 4) = true := beq_iff_eq.mpr c9
          have c9b1 : (a0_0 != 4) = false := bne_eq_false_iff_eq.mpr c9
          clear c9
          obtain rfl := Option.some.inj H
          go_wp2
          go_ret
          exact ⟨by first | rfl | exact congrArg (fun z => Ending.returned (Value.int IntKind.i64 z)) (by decide +kernel) | (simp [errW_none, errW_some] <;> rfl) | (simp [*, errW_none, errW_some] <;> rfl), zz11⟩
        · rw [if_neg c9] at H
          have c9b0 : (a0_0 == 4) = false := beq_eq_false_iff_ne.mpr c9
          have c9b1 : (a0_0 != 4) = true := bne_iff_ne.mpr c9
          by_cases c10 : a0_0 = 5
          · rw [if_pos c10] at H
            have c10b0 : (a0_0 == 5) = true := beq_iff_eq.mpr c10
            have c10b1 : (a0_0 != 5) = false := bne_eq_false_iff_eq.mpr c10
            clear c10
            replace H := Option.bind_eq_some_iff.mp H
            obtain ⟨t186, A110, H⟩ := H
            replace H : (some t186) = some r := H
            have A11 := Aside0.mk A110
            clear A110
            obtain rfl := Option.some.inj H
            have hcz12_0 : wc.cell? ⟨gb185, 0, none⟩ = some (.int .i64 a0_0) := (blk_cell BK185.out 0).trans rfl
            have hcz12_1 : wc.cell? ⟨gb185, 1, none⟩ = some (.int .i64 a0_1) := (blk_cell BK185.out 1).trans rfl
            have hcz12_2 : wc.cell? ⟨gb185, 2, none⟩ = some (.int .i64 a0_2) := (blk_cell BK185.out 2).trans rfl
            have hcz12_3 : wc.cell? ⟨gb185, 3, none⟩ = some (.string a0_3) := (blk_cell BK185.out 3).trans rfl
            have hcz12_4 : wc.cell? ⟨gb185, 4, none⟩ = some (.int .i64 a0_4) := (blk_cell BK185.out 4).trans rfl
            have hcz12_5 : wc.cell? ⟨gb185, 5, none⟩ = some (.int .i64 a0_5) := (blk_cell BK185.out 5).trans rfl
            have hcz12_6 : wc.cell? ⟨gb185, 6, none⟩ = some (.int .i64 a0_6) := (blk_cell BK185.out 6).trans rfl
            have hcz12_7 : wc.cell? ⟨gb185, 7, none⟩ = some (.int .i64 a0_7) := (blk_cell BK185.out 7).trans rfl
            have hcz12_8 : wc.cell? ⟨gb185, 8, none⟩ = some (.string a0_8) := (blk_cell BK185.out 8).trans rfl
            have hcz12_9 : wc.cell? ⟨gb185, 9, none⟩ = some (.slice A0_9 l0_9.length c0_9) := (blk_cell BK185.out 9).trans rfl
            have hfz12_0 := blk_frozen BK185.out 0
            have hfz12_1 := blk_frozen BK185.out 1
            have hfz12_2 := blk_frozen BK185.out 2
            have hfz12_3 := blk_frozen BK185.out 3
            have hfz12_4 := blk_frozen BK185.out 4
            have hfz12_5 := blk_frozen BK185.out 5
            have hfz12_6 := blk_frozen BK185.out 6
            have hfz12_7 := blk_frozen BK185.out 7
            have hfz12_8 := blk_frozen BK185.out 8
            have hfz12_9 := blk_frozen BK185.out 9
            go_wp2_with (first | ((with_reducible refine gate_callee (f := 34) rfl ?_); refine goesL_ (some 21) rfl rfl Tryz.func34 (by kernel_rfl) rfl #[.string a0_8] rfl zz25 ?_; (with_reducible refine (print_binary.calls kj1 a0_8 t186 _ A11.out).mono ?_); rintro e w' ⟨rfl, ⟨nd, rfl⟩⟩; refine ⟨_, rfl, ?_⟩))
            go_ret
            exact ⟨by first | rfl | exact congrArg (fun z => Ending.returned (Value.int IntKind.i64 z)) (by decide +kernel) | (simp [errW_none, errW_some] <;> rfl) | (simp [*, errW_none, errW_some] <;> rfl), zz11⟩
          · rw [if_neg c10] at H
            have c10b0 : (a0_0 == 5) = false := beq_eq_false_iff_ne.mpr c10
            have c10b1 : (a0_0 != 5) = true := bne_iff_ne.mpr c10
            obtain rfl := Option.some.inj H
            go_wp2
            go_ret
            exact ⟨by first | rfl | exact congrArg (fun z => Ending.returned (Value.int IntKind.i64 z)) (by decide +kernel) | (simp [errW_none, errW_some] <;> rfl) | (simp [*, errW_none, errW_some] <;> rfl), zz11⟩
end Go.Proofs.YtnomfbmebafolaaGreatDoor.P

namespace Go.Proofs.YtnomfbmebafolaaGreatDoor.P
open Go.RowKit Go.Proofs.YtnomfbmebafolaaGreatDoorW.PrintWords Go.Proofs.YtnomfbmebafolaaGreatDoorW.PrintLast Go.Proofs.YtnomfbmebafolaaGreatDoorW.PrintMore
attribute [local go_sem] max2_int min2_int max_two min_two max_three min_three max_four min_four   -- for this text's walks alone
set_option linter.unusedVariables false
set_option linter.unusedSimpArgs false
def print_sides.f (k : Nat) (a0 : ByteArray) : Option (Int × Int) := (print_binary.f k a0).bind fun t187 => (if t187 = 2 then (some (2, 3)) else (if t187 = 3 then (some (3, 4)) else (if t187 = 4 then (some (5, 4)) else (some (2, 2)))))
set_option maxHeartbeats 8000000 in
set_option maxRecDepth 100000 in
theorem print_sides.calls (k : Nat) (a0 : ByteArray) (r1 : Int) (r2 : Int) (w : World) (h : print_sides.f k a0 = some (r1, r2)) :
    Calls Tryz.prog 31 #[.string a0] w fun e w' => e = .returned (.tuple #[.int .i64 r1, .int .i64 r2]) ∧ Drawn0 w w' := by
  have H : ((print_binary.f k a0).bind fun t187 => (if t187 = 2 then (some (2, 3)) else (if t187 = 3 then (some (3, 4)) else (if t187 = 4 then (some (5, 4)) else (some (2, 2)))))) = some (r1, r2) := h
  clear h
  replace H := Option.bind_eq_some_iff.mp H
  obtain ⟨t187, A20, H⟩ := H
  replace H : (if t187 = 2 then (some (2, 3)) else (if t187 = 3 then (some (3, 4)) else (if t187 = 4 then (some (5, 4)) else (some (2, 2))))) = some (r1, r2) := H
  have A2 := Aside0.mk A20
  clear A20
  by_cases c3 : t187 = 2
  · rw [if_pos c3] at H
    have c3b0 : (t187 == 2) = true := beq_iff_eq.mpr c3
    have c3b1 : (t187 != 2) = false := bne_eq_false_iff_eq.mpr c3
    clear c3
    simp only [Option.some.injEq, Prod.mk.injEq] at H
    obtain ⟨rfl, rfl⟩ := H
    go_enter Tryz.func31, Tryz.ntmps31
    go_wp2_with (first | ((with_reducible refine gate_callee (f := 34) rfl ?_); refine goesL_ (some 5) rfl rfl Tryz.func34 (by kernel_rfl) rfl #[.string a0] rfl zz25 ?_; (with_reducible refine (print_binary.calls k a0 t187 _ A2.out).mono ?_); rintro e w' ⟨rfl, ⟨nd, rfl⟩⟩; refine ⟨_, rfl, ?_⟩))
    go_ret2
    exact ⟨zz27, by repeat (first | exact Drawn0.refl _ | apply Drawn0.step)⟩
  · rw [if_neg c3] at H
    have c3b0 : (t187 == 2) = false := beq_eq_false_iff_ne.mpr c3
    have c3b1 : (t187 != 2) = true := bne_iff_ne.mpr c3
    by_cases c4 : t187 = 3
    · rw [if_pos c4] at H
      have c4b0 : (t187 == 3) = true := beq_iff_eq.mpr c4
      have c4b1 : (t187 != 3) = false := bne_eq_false_iff_eq.mpr c4
      clear c4
      simp only [Option.some.injEq, Prod.mk.injEq] at H
      obtain ⟨rfl, rfl⟩ := H
      go_enter Tryz.func31, Tryz.ntmps31
      go_wp2_with (first | ((with_reducible refine gate_callee (f := 34) rfl ?_); refine goesL_ (some 5) rfl rfl Tryz.func34 (by kernel_rfl) rfl #[.string a0] rfl zz25 ?_; (with_reducible refine (print_binary.calls k a0 t187 _ A2.out).mono ?_); rintro e w' ⟨rfl, ⟨nd, rfl⟩⟩; refine ⟨_, rfl, ?_⟩))
      go_ret2
      exact ⟨zz27, by repeat (first | exact Drawn0.refl _ | apply Drawn0.step)⟩
    · rw [if_neg c4] at H
      have c4b0 : (t187 == 3) = false := beq_eq_false_iff_ne.mpr c4
      have c4b1 : (t187 != 3) = true := bne_iff_ne.mpr c4
      by_cases c5 : t187 = 4
      · rw [if_pos c5] at H
        have c5b0 : (t187 == 4) = true := beq_iff_eq.mpr c5
        have c5b1 : (t187 != 4) = false := bne_eq_false_iff_eq.mpr c5
        clear c5
        simp only [Option.some.injEq, Prod.mk.injEq] at H
        obtain ⟨rfl, rfl⟩ := H
        go_enter Tryz.func31, Tryz.ntmps31
        go_wp2_with (first | ((with_reducible refine gate_callee (f := 34) rfl ?_); refine goesL_ (some 5) rfl rfl Tryz.func34 (by kernel_rfl) rfl #[.string a0] rfl zz25 ?_; (with_reducible refine (print_binary.calls k a0 t187 _ A2.out).mono ?_); rintro e w' ⟨rfl, ⟨nd, rfl⟩⟩; refine ⟨_, rfl, ?_⟩))
        go_ret2
        exact ⟨zz27, by repeat (first | exact Drawn0.refl _ | apply Drawn0.step)⟩
      · rw [if_neg c5] at H
        have c5b0 : (t187 == 4) = false := beq_eq_false_iff_ne.mpr c5
        have c5b1 : (t187 != 4) = true := bne_iff_ne.mpr c5
        simp only [Option.some.injEq, Prod.mk.injEq] at H
        obtain ⟨rfl, rfl⟩ := H
        go_enter Tryz.func31, Tryz.ntmps31
        go_wp2_with (first | ((with_reducible refine gate_callee (f := 34) rfl ?_); refine goesL_ (some 5) rfl rfl Tryz.func34 (by kernel_rfl) rfl #[.string a0] rfl zz25 ?_; (with_reducible refine (print_binary.calls k a0 t187 _ A2.out).mono ?_); rintro e w' ⟨rfl, ⟨nd, rfl⟩⟩; refine ⟨_, rfl, ?_⟩))
        go_ret2
        exact ⟨zz27, by repeat (first | exact Drawn0.refl _ | apply Drawn0.step)⟩
end Go.Proofs.YtnomfbmebafolaaGreatDoor.P

namespace Go.Proofs.YtnomfbmebafolaaGreatDoor.P
open Go.RowKit Go.Proofs.YtnomfbmebafolaaGreatDoorW.PrintWords Go.Proofs.YtnomfbmebafolaaGreatDoorW.PrintLast Go.Proofs.YtnomfbmebafolaaGreatDoorW.PrintMore
open M (I64)
set_option linter.unusedVariables false
set_option linter.unusedSimpArgs false
def rowO (k : Nat) (t : TN) : Option Int := print_Row.f k t.f0 t.f1.f0 t.f1.f1 t.f1.f2 t.f2.f0.f0 t.f2.f0.f1 t.f2.f1.f0 t.f2.f1.f1 t.f3 t.f4
def conO (t : TN) : Option ByteArray := if t.f1.f0 = 2 then num_Dec.f t.f1.f1 else none
def leastL (T : TN → Option (List UInt8)) (k : Nat) (t : TN) (row : Int) : Option (List UInt8) :=
  match rowO k t with
  | none => none
  | some r => match T t with | none => none | some l => some (if row ≤ r then l else 40 :: (l ++ [41]))
def textT : Nat → TN → Option (List UInt8)
  | 0, _ => none
  | k + 1, t =>
    if t.f0 = 1 then (conO t).map (·.data.toList) else
    if t.f0 = 2 then (addr_Name.f t.f2.f0.f0 t.f2.f0.f1).map (·.data.toList) else
    if t.f0 = 4 then (match t.f4 with | [a] => (leastL (textT k) k a 5).map (45 :: ·) | _ => none) else
    if t.f0 = 5 then (match t.f4 with
      | [a, b] => match print_sides.f k t.f3 with
        | none => none
        | some (x, y) => match leastL (textT k) k a x with
          | none => none
          | some p => match leastL (textT k) k b y with | none => none | some q => some (p ++ (t.f3.data.toList ++ q))
      | _ => none) else
    none
theorem isW_below {B b : Nat} {bs : List Value} {W W' : World} (h : IsW B b bs W) (hb : Below W.heap.size W W') : IsW B b bs W' := by
  have one : ∀ p, Lib.BuilderAt 50 5 B b p bs W → Lib.BuilderAt 50 5 B b p bs W' := by
    rintro p ⟨hB, v, hbk, ⟨hl, ho⟩, hne⟩
    refine ⟨hB, v, (hb.block b (blk_lt hbk)).trans hbk, ⟨hl, ?_⟩, hne⟩
    rcases ho with ho | ⟨g, cap, cur, e1, e2, e3, r⟩
    · exact .inl ho
    · exact .inr ⟨g, cap, cur, e1, e2, (hb.block g (blk_lt e3)).trans e3, r⟩
  rcases h with h | h
  · exact .inl (one _ h)
  · exact .inr (one _ h)
theorem isW_alloc {B b : Nat} {bs : List Value} {W : World} (h : IsW B b bs W) (o : Obj) : IsW B b bs (W.alloc o) := isW_below h (below_alloc (Below.refl _ _) o)
theorem isW_drew {B b : Nat} {bs : List Value} {W : World} (h : IsW B b bs W) : IsW B b bs W.drew := h
theorem strCells_app (l : List UInt8) (s : ByteArray) : Lib.byteCells l ++ Lib.strCells s = Lib.byteCells (l ++ s.data.toList) := by
  simp [Lib.byteCells, Lib.strCells]
theorem k_of_alloc {a c : World} {o : Obj} (h : Below (a.alloc o).heap.size (a.alloc o) c) : Below a.heap.size a c :=
  ⟨h.os, h.tape, h.output, Nat.le_trans (by simp) h.size, fun i hi => (h.block i (by simp; omega)).trans (blk_alloc_old _ _ hi)⟩
theorem w_more {B b : Nat} {l : List UInt8} {W0 W : World} (h : IsW B b (Lib.byteCells l) W) (hB : B = W0.heap.size) (hbl : Below B W0 W) (s : ByteArray) (hs : l.length + s.size ≤ 200000000) :
    Calls Tryz.prog 27 #[ptr b, .string s] W fun e W' => ∃ v, e = .returned v ∧ IsW B b (Lib.byteCells (l ++ s.data.toList)) W' ∧ Below B W0 W' ∧ Keep b W W' := by
  have hsz := hbl.size
  refine (w_string B b (Lib.byteCells l) s W h (by rw [Lib.byteCells_length]; omega) (by omega)).mono ?_
  rintro e W' ⟨rfl, h1, h2, h3⟩
  rw [strCells_app] at h1
  exact ⟨_, rfl, h1, hbl.trans h2, h3⟩
def Writes (m : Nat) (args : Array Value) (W0 : World) (b : Nat) (out : List UInt8) : Prop := ∀ (W : World) (l : List UInt8), IsW W0.heap.size b (Lib.byteCells l) W → Below W0.heap.size W0 W → l.length + out.length ≤ 100000000 →
  Calls Tryz.prog m args W fun e W' => e = .returned (.tuple #[]) ∧ IsW W0.heap.size b (Lib.byteCells (l ++ out)) W' ∧ Below W0.heap.size W0 W' ∧ Keep b W W'
set_option maxHeartbeats 1000000 in
set_option maxRecDepth 100000 in
theorem const_int (n : Int) (u : ByteArray) (s : ByteArray) (h : num_Dec.f n = some s) (W : World) (hG : G1 W) :
    Calls Tryz.prog 28 #[.agg #[.int .i64 2, .int .i64 n, .string u]] W fun e W' => e = .returned (.string s) ∧ Below W.heap.size W W' := by
  have hu := Tryz.underlying24
  have HD := Lib.hid h
  have HG := Lib.hid hG
  clear h hG
  go_enter Tryz.func28, Tryz.ntmps28
  go_wp2_with (go_at_call 36; (with_reducible refine (num_Dec.calls _ _ _ ?sg HD.out).mono ?_); (case sg => exact gl_1_1 (below_alloc (Below.refl _ _) _) HG.out); rintro e w1 ⟨rfl, hb⟩)
  go_ret
  exact ⟨rfl, k_of_alloc hb⟩
set_option maxHeartbeats 4000000 in
set_option maxRecDepth 100000 in
theorem node_const (t : TN) (v9 : Value) (W0 : World) (b : Nat) (s : ByteArray) (h1 : t.f0 = 1) (hc : conO t = some s) (hG : G1 W0) :
    Writes 11 #[ptr b, ndV t v9] W0 b s.data.toList := by
  intro W l hI hb hl
  have hl : l.length + s.size ≤ 200000000 := by have h : s.data.toList.length = s.size := Array.length_toList; omega
  have hu := Tryz.underlying31
  have hu2 := Tryz.underlying50
  have HG := Lib.hid hG
  have HI := Lib.hid hI
  have HB := Lib.hid hb
  have h2 : t.f1.f0 = 2 ∧ num_Dec.f t.f1.f1 = some s := by
    unfold conO at hc
    by_cases h : t.f1.f0 = 2
    · rw [if_pos h] at hc; exact ⟨h, hc⟩
    · rw [if_neg h] at hc; cases hc
  have HC := Lib.hid h2.2
  have hk2 := h2.1
  clear h2
  have hk : (t.f0 == 1) = true := beq_iff_eq.2 h1
  clear hG hI hb hc h1
  go_enter Tryz.func11, Tryz.ntmps11
  go_wp2_with fail
  go_region_with (first | (go_at_call 28; (with_reducible refine (const_int _ _ _ HC.out _ ?sg).mono ?_); (case sg => exact gl_1_1 (by with_reducible repeat (first | exact HB.out | refine below_alloc ?_ _ | refine pw_below_drewN ?_ _ | refine Below.drew ?_)) HG.out); rintro e w1 ⟨rfl, hbl⟩; have HI1 := Lib.hid (isW_below (B := W0.heap.size) (b := b) (bs := Lib.byteCells l) (by with_reducible repeat (first | exact HI.out | refine isW_alloc ?_ _ | refine isW_drewN ?_ _ | refine isW_drew ?_)) hbl); have HB1 := Lib.hid (below_step (w := W0) (by with_reducible repeat (first | exact HB.out | refine below_alloc ?_ _ | refine pw_below_drewN ?_ _ | refine Below.drew ?_)) hbl); have HK1 := Lib.hid (Keep.below (b := b) hbl)) | (go_at_call 27; (with_reducible refine (w_more (B := W0.heap.size) (b := b) (l := l) (W0 := W0) (by with_reducible repeat (first | exact HI1.out | refine isW_drewN ?_ _ | refine isW_drew ?_)) rfl (by with_reducible repeat (first | exact HB1.out | refine pw_below_drewN ?_ _ | refine Below.drew ?_)) s hl).mono ?_); rintro e w2 ⟨v2, rfl, hI2, hB2, hK2⟩))
  all_goals go_wp2_with fail
  all_goals go_end0
  all_goals exact ⟨rfl, hI2, hB2, ((Keep.below (below_alloc (Below.refl _ _) _)).trans (HK1.out)).trans hK2⟩
end Go.Proofs.YtnomfbmebafolaaGreatDoor.P

namespace Go.Proofs.YtnomfbmebafolaaGreatDoor.P
open Go.RowKit Go.Proofs.YtnomfbmebafolaaGreatDoorW.PrintWords Go.Proofs.YtnomfbmebafolaaGreatDoorW.PrintLast Go.Proofs.YtnomfbmebafolaaGreatDoorW.PrintMore
open M (I64)
set_option linter.unusedVariables false
set_option linter.unusedSimpArgs false
theorem keep_drew {b : Nat} {W V : World} (h : Keep b W V) : Keep b W V.drew := h
theorem isW_lt {B b : Nat} {bs : List Value} {W : World} (h : IsW B b bs W) : b < W.heap.size := by
  rcases h with h | h
  · exact h.lt
  · exact h.lt
theorem Keep.box {b : Nat} {W V : World} {q : Nat} {t : TN} {v9 : Value} (h : Keep b W V) (e : W.heap[q]? = some (ndO t v9)) (hq : q ≠ b) : V.heap[q]? = some (ndO t v9) := h q _ _ _ e (by decide) hq
theorem Writes.go {m : Nat} {args : Array Value} {W0 : World} {b : Nat} {out : List UInt8} (h : Writes m args W0 b out) (W : World) (l : List UInt8) (h1 : IsW W0.heap.size b (Lib.byteCells l) W) (h2 : Below W0.heap.size W0 W) (h3 : l.length + out.length ≤ 100000000) :
    Calls Tryz.prog m args W fun e W' => e = .returned (.tuple #[]) ∧ IsW W0.heap.size b (Lib.byteCells (l ++ out)) W' ∧ Below W0.heap.size W0 W' ∧ Keep b W W' := h W l h1 h2 h3
theorem data_len (s : ByteArray) : s.data.toList.length = s.size := Array.length_toList
set_option maxHeartbeats 4000000 in
set_option maxRecDepth 100000 in
theorem least_plain (t : TN) (A : Option Addr) (c : Nat) (W0 : World) (b : Nat) (k : Nat) (row r : Int) (out : List UInt8) (hV : vN (fun j => j < W0.heap.size) W0 (.slice A t.f4.length c) t.f4) (hr : rowO k t = some r) (hF : Writes 11 #[ptr b, ndV t (.slice A t.f4.length c)] W0 b out) (hle : row ≤ r) : Writes 30 #[ptr b, ndV t (.slice A t.f4.length c), .int .i64 row] W0 b out := by
  intro W l hI hb hl
  have hu := Tryz.underlying31
  have hu2 := Tryz.underlying50
  have HI0 := Lib.hid hI
  have HB0 := Lib.hid hb
  have BX0 := Lib.hid (blk_new W (ndO t (.slice A t.f4.length c)))
  have HK0 := Lib.hid (Keep.refl b (W.alloc (ndO t (.slice A t.f4.length c))))
  have HNE := Lib.hid (show W.heap.size ≠ b from Nat.ne_of_gt (isW_lt hI))
  have HV0 := Lib.hid (show vN (fun j => j < W0.heap.size) W (.slice A t.f4.length c) t.f4 from Kd.V_step hV (fun k hk _ => hb.block k hk))
  have HR := Lib.hid (show print_Row.f k t.f0 t.f1.f0 t.f1.f1 t.f1.f2 t.f2.f0.f0 t.f2.f0.f1 t.f2.f1.f0 t.f2.f1.f1 t.f3 t.f4 = some r from hr)
  have HF := Lib.hid hF
  have hq : decide (row ≤ r) = true := decide_eq_true hle
  clear hI hb hV hr hF
  go_enter Tryz.func30, Tryz.ntmps30
  go_wp2_with (first | (go_at_call 15; (with_reducible refine (print_Row.calls k _ _ _ _ _ _ _ _ _ _ _ _ _ _ ?sr ?sc HR.out).mono ?_); (case sr => (refine (Kd.V_reads' (e := 31) (base := 0) (ok := fun j => j < W0.heap.size) (n := t.f4.length) (c := c) ?_).2.2; with_reducible repeat (first | exact HV0.out | refine Kd.V_alloc ?_ _ | refine Kd.V_drewN ?_ _ | refine Kd.V_drew ?_))); (case sc => exact (Kd.V_reads' HV0.out).2.1); rintro e w1 ⟨rfl, hbl⟩; have HI1 := Lib.hid (isW_below (B := W0.heap.size) (b := b) (bs := Lib.byteCells (l)) (by with_reducible repeat (first | exact HI0.out | refine isW_alloc ?_ _ | refine isW_drewN ?_ _ | refine isW_drew ?_)) hbl); have HB1 := Lib.hid (below_step (w := W0) (by with_reducible repeat (first | exact HB0.out | refine below_alloc ?_ _ | refine pw_below_drewN ?_ _ | refine Below.drew ?_)) hbl); have HK1 := Lib.hid (Keep.trans (W := W.alloc (ndO t (.slice A t.f4.length c))) (by with_reducible repeat (first | exact HK0.out | refine keep_drewN ?_ _ | refine keep_drew ?_)) (Keep.below (b := b) hbl)); have BX1 := Lib.hid (Keep.box (t := t) (v9 := .slice A t.f4.length c) (q := W.heap.size) (Keep.below (b := b) hbl) (by with_reducible repeat (first | exact BX0.out | exact blk_new _ _ | refine blk_alloc ?_ _ | refine blk_drewN ?_ _ | refine blk_drew ?_)) HNE.out); (try clear c0 c1 c2 c3 c4 c5 c6 c7 c8 c9 z0 z1 z2 z3 z4 z5 z6 z7 z8 z9); obtain ⟨⟨c0, c1, c2, c3, c4, c5, c6, c7, c8, c9⟩, z0, z1, z2, z3, z4, z5, z6, z7, z8, z9⟩ := z10 BX1.out) | (go_at_call 11; (fail_if_success have := HI2); (with_reducible refine (HF.out.go _ (l) ?si ?sb ?sl).mono ?_); (case si => exact (by with_reducible repeat (first | exact HI1.out | refine isW_alloc ?_ _ | refine isW_drewN ?_ _ | refine isW_drew ?_))); (case sb => exact (by with_reducible repeat (first | exact HB1.out | refine below_alloc ?_ _ | refine pw_below_drewN ?_ _ | refine Below.drew ?_))); (case sl => exact hl); rintro e w2 ⟨rfl, hI, hB, hK⟩; have HI2 := Lib.hid hI; have HB2 := Lib.hid (hB); have HK2 := Lib.hid (Keep.trans (W := W.alloc (ndO t (.slice A t.f4.length c))) (by with_reducible repeat (first | exact HK1.out | refine keep_drewN ?_ _ | refine keep_drew ?_)) (hK)); have BX2 := Lib.hid (Keep.box (t := t) (v9 := .slice A t.f4.length c) (q := W.heap.size) (hK) (by with_reducible repeat (first | exact BX1.out | exact blk_new _ _ | refine blk_alloc ?_ _ | refine blk_drewN ?_ _ | refine blk_drew ?_)) HNE.out); (try clear c0 c1 c2 c3 c4 c5 c6 c7 c8 c9 z0 z1 z2 z3 z4 z5 z6 z7 z8 z9); obtain ⟨⟨c0, c1, c2, c3, c4, c5, c6, c7, c8, c9⟩, z0, z1, z2, z3, z4, z5, z6, z7, z8, z9⟩ := z10 BX2.out; clear hI hB hK))
  refine bodyPost_ret (results_none rfl _ _ _) rfl ?_
  exact ⟨rfl, HI2.out, HB2.out, ((Keep.below (below_alloc (Below.refl _ _) _)).trans HK2.out)⟩
set_option maxHeartbeats 4000000 in
set_option maxRecDepth 100000 in
theorem least_paren (t : TN) (A : Option Addr) (c : Nat) (W0 : World) (b : Nat) (k : Nat) (row r : Int) (out : List UInt8) (hV : vN (fun j => j < W0.heap.size) W0 (.slice A t.f4.length c) t.f4) (hr : rowO k t = some r) (hF : Writes 11 #[ptr b, ndV t (.slice A t.f4.length c)] W0 b out) (hle : ¬ row ≤ r) : Writes 30 #[ptr b, ndV t (.slice A t.f4.length c), .int .i64 row] W0 b (40 :: (out ++ [41])) := by
  intro W l hI hb hl
  have hu := Tryz.underlying31
  have hu2 := Tryz.underlying50
  have HI0 := Lib.hid hI
  have HB0 := Lib.hid hb
  have BX0 := Lib.hid (blk_new W (ndO t (.slice A t.f4.length c)))
  have HK0 := Lib.hid (Keep.refl b (W.alloc (ndO t (.slice A t.f4.length c))))
  have HNE := Lib.hid (show W.heap.size ≠ b from Nat.ne_of_gt (isW_lt hI))
  have HV0 := Lib.hid (show vN (fun j => j < W0.heap.size) W (.slice A t.f4.length c) t.f4 from Kd.V_step hV (fun k hk _ => hb.block k hk))
  have HR := Lib.hid (show print_Row.f k t.f0 t.f1.f0 t.f1.f1 t.f1.f2 t.f2.f0.f0 t.f2.f0.f1 t.f2.f1.f0 t.f2.f1.f1 t.f3 t.f4 = some r from hr)
  have HF := Lib.hid hF
  have hq : decide (row ≤ r) = false := decide_eq_false hle
  have hl1 : (l ++ [40]).length + out.length ≤ 100000000 := by simp only [List.length_append, List.length_cons, List.length_nil] at hl ⊢; omega
  have hl0 : l.length + (⟨#[40]⟩ : ByteArray).size ≤ 200000000 := by simp only [List.length_cons, List.length_append] at hl; show l.length + 1 ≤ _; omega
  have hl2 : ((l ++ [40]) ++ out).length + (⟨#[41]⟩ : ByteArray).size ≤ 200000000 := by simp only [List.length_append, List.length_cons, List.length_nil] at hl ⊢; show _ + 1 ≤ _; omega
  clear hI hb hV hr hF
  go_enter Tryz.func30, Tryz.ntmps30
  go_wp2_with (first | (go_at_call 15; (with_reducible refine (print_Row.calls k _ _ _ _ _ _ _ _ _ _ _ _ _ _ ?sr ?sc HR.out).mono ?_); (case sr => (refine (Kd.V_reads' (e := 31) (base := 0) (ok := fun j => j < W0.heap.size) (n := t.f4.length) (c := c) ?_).2.2; with_reducible repeat (first | exact HV0.out | refine Kd.V_alloc ?_ _ | refine Kd.V_drewN ?_ _ | refine Kd.V_drew ?_))); (case sc => exact (Kd.V_reads' HV0.out).2.1); rintro e w1 ⟨rfl, hbl⟩; have HI1 := Lib.hid (isW_below (B := W0.heap.size) (b := b) (bs := Lib.byteCells (l)) (by with_reducible repeat (first | exact HI0.out | refine isW_alloc ?_ _ | refine isW_drewN ?_ _ | refine isW_drew ?_)) hbl); have HB1 := Lib.hid (below_step (w := W0) (by with_reducible repeat (first | exact HB0.out | refine below_alloc ?_ _ | refine pw_below_drewN ?_ _ | refine Below.drew ?_)) hbl); have HK1 := Lib.hid (Keep.trans (W := W.alloc (ndO t (.slice A t.f4.length c))) (by with_reducible repeat (first | exact HK0.out | refine keep_drewN ?_ _ | refine keep_drew ?_)) (Keep.below (b := b) hbl)); have BX1 := Lib.hid (Keep.box (t := t) (v9 := .slice A t.f4.length c) (q := W.heap.size) (Keep.below (b := b) hbl) (by with_reducible repeat (first | exact BX0.out | exact blk_new _ _ | refine blk_alloc ?_ _ | refine blk_drewN ?_ _ | refine blk_drew ?_)) HNE.out); (try clear c0 c1 c2 c3 c4 c5 c6 c7 c8 c9 z0 z1 z2 z3 z4 z5 z6 z7 z8 z9); obtain ⟨⟨c0, c1, c2, c3, c4, c5, c6, c7, c8, c9⟩, z0, z1, z2, z3, z4, z5, z6, z7, z8, z9⟩ := z10 BX1.out) | (go_at_call 27; (fail_if_success have := HI2); (with_reducible refine (w_more (B := W0.heap.size) (b := b) (l := l) (W0 := W0) (by with_reducible repeat (first | exact HI1.out | refine isW_alloc ?_ _ | refine isW_drewN ?_ _ | refine isW_drew ?_)) rfl (by with_reducible repeat (first | exact HB1.out | refine below_alloc ?_ _ | refine pw_below_drewN ?_ _ | refine Below.drew ?_)) ⟨#[40]⟩ ?hl).mono ?_); (case hl => exact hl0); rintro e w2 ⟨v2, rfl, hI, hB, hK⟩; have HI2 := Lib.hid hI; have HB2 := Lib.hid (hB); have HK2 := Lib.hid (Keep.trans (W := W.alloc (ndO t (.slice A t.f4.length c))) (by with_reducible repeat (first | exact HK1.out | refine keep_drewN ?_ _ | refine keep_drew ?_)) (hK)); have BX2 := Lib.hid (Keep.box (t := t) (v9 := .slice A t.f4.length c) (q := W.heap.size) (hK) (by with_reducible repeat (first | exact BX1.out | exact blk_new _ _ | refine blk_alloc ?_ _ | refine blk_drewN ?_ _ | refine blk_drew ?_)) HNE.out); (try clear c0 c1 c2 c3 c4 c5 c6 c7 c8 c9 z0 z1 z2 z3 z4 z5 z6 z7 z8 z9); obtain ⟨⟨c0, c1, c2, c3, c4, c5, c6, c7, c8, c9⟩, z0, z1, z2, z3, z4, z5, z6, z7, z8, z9⟩ := z10 BX2.out; clear hI hB hK) | (go_at_call 11; (fail_if_success have := HI3); (with_reducible refine (HF.out.go _ (l ++ [40]) ?si ?sb ?sl).mono ?_); (case si => exact (by with_reducible repeat (first | exact HI2.out | refine isW_alloc ?_ _ | refine isW_drewN ?_ _ | refine isW_drew ?_))); (case sb => exact (by with_reducible repeat (first | exact HB2.out | refine below_alloc ?_ _ | refine pw_below_drewN ?_ _ | refine Below.drew ?_))); (case sl => exact hl1); rintro e w3 ⟨rfl, hI, hB, hK⟩; have HI3 := Lib.hid hI; have HB3 := Lib.hid (hB); have HK3 := Lib.hid (Keep.trans (W := W.alloc (ndO t (.slice A t.f4.length c))) (by with_reducible repeat (first | exact HK2.out | refine keep_drewN ?_ _ | refine keep_drew ?_)) (hK)); have BX3 := Lib.hid (Keep.box (t := t) (v9 := .slice A t.f4.length c) (q := W.heap.size) (hK) (by with_reducible repeat (first | exact BX2.out | exact blk_new _ _ | refine blk_alloc ?_ _ | refine blk_drewN ?_ _ | refine blk_drew ?_)) HNE.out); (try clear c0 c1 c2 c3 c4 c5 c6 c7 c8 c9 z0 z1 z2 z3 z4 z5 z6 z7 z8 z9); obtain ⟨⟨c0, c1, c2, c3, c4, c5, c6, c7, c8, c9⟩, z0, z1, z2, z3, z4, z5, z6, z7, z8, z9⟩ := z10 BX3.out; clear hI hB hK) | (go_at_call 27; (fail_if_success have := HI4); (with_reducible refine (w_more (B := W0.heap.size) (b := b) (l := (l ++ [40]) ++ out) (W0 := W0) (by with_reducible repeat (first | exact HI3.out | refine isW_alloc ?_ _ | refine isW_drewN ?_ _ | refine isW_drew ?_)) rfl (by with_reducible repeat (first | exact HB3.out | refine below_alloc ?_ _ | refine pw_below_drewN ?_ _ | refine Below.drew ?_)) ⟨#[41]⟩ ?hl).mono ?_); (case hl => exact hl2); rintro e w4 ⟨v4, rfl, hI, hB, hK⟩; have HI4 := Lib.hid hI; have HB4 := Lib.hid (hB); have HK4 := Lib.hid (Keep.trans (W := W.alloc (ndO t (.slice A t.f4.length c))) (by with_reducible repeat (first | exact HK3.out | refine keep_drewN ?_ _ | refine keep_drew ?_)) (hK)); have BX4 := Lib.hid (Keep.box (t := t) (v9 := .slice A t.f4.length c) (q := W.heap.size) (hK) (by with_reducible repeat (first | exact BX3.out | exact blk_new _ _ | refine blk_alloc ?_ _ | refine blk_drewN ?_ _ | refine blk_drew ?_)) HNE.out); (try clear c0 c1 c2 c3 c4 c5 c6 c7 c8 c9 z0 z1 z2 z3 z4 z5 z6 z7 z8 z9); obtain ⟨⟨c0, c1, c2, c3, c4, c5, c6, c7, c8, c9⟩, z0, z1, z2, z3, z4, z5, z6, z7, z8, z9⟩ := z10 BX4.out; clear hI hB hK))
  go_end0
  have e_ : ((l ++ [40]) ++ out) ++ (⟨#[41]⟩ : ByteArray).data.toList = l ++ (40 :: (out ++ [41])) := by simp
  have HI5 := HI4.out
  rw [e_] at HI5
  exact ⟨rfl, HI5, HB4.out, ((Keep.below (below_alloc (Below.refl _ _) _)).trans HK4.out)⟩
abbrev El0 (W : World) (ad : Addr) (x : TN) (v9 : Value) : Prop := W.cell? ad = some (.int .i64 x.f0) ∧ W.cell? ⟨ad.block, ad.off + 1, none⟩ = some (.int .i64 x.f1.f0) ∧ W.cell? ⟨ad.block, ad.off + 2, none⟩ = some (.int .i64 x.f1.f1) ∧ W.cell? ⟨ad.block, ad.off + 3, none⟩ = some (.string x.f1.f2) ∧ W.cell? ⟨ad.block, ad.off + 4, none⟩ = some (.int .i64 x.f2.f0.f0) ∧ W.cell? ⟨ad.block, ad.off + 5, none⟩ = some (.int .i64 x.f2.f0.f1) ∧ W.cell? ⟨ad.block, ad.off + 6, none⟩ = some (.int .i64 x.f2.f1.f0) ∧ W.cell? ⟨ad.block, ad.off + 7, none⟩ = some (.int .i64 x.f2.f1.f1) ∧ W.cell? ⟨ad.block, ad.off + 8, none⟩ = some (.string x.f3) ∧ W.cell? ⟨ad.block, ad.off + 9, none⟩ = some v9
theorem El0_below {W0 W : World} {ad : Addr} {x : TN} {v9 : Value} (h : El0 W0 ad x v9) (hb : Below W0.heap.size W0 W) : El0 W ad x v9 :=
  have one : ∀ (p : Addr) (v : Value), W0.cell? p = some v → W.cell? p = some v := fun p v h => (Below.cell hb (World.block_lt_of_cell? _ _ h)).trans h
  ⟨one _ _ h.1, one _ _ h.2.1, one _ _ h.2.2.1, one _ _ h.2.2.2.1, one _ _ h.2.2.2.2.1, one _ _ h.2.2.2.2.2.1, one _ _ h.2.2.2.2.2.2.1, one _ _ h.2.2.2.2.2.2.2.1, one _ _ h.2.2.2.2.2.2.2.2.1, one _ _ h.2.2.2.2.2.2.2.2.2⟩
abbrev El1 (W : World) (ad : Addr) (x : TN) (v9 : Value) : Prop := W.cell? ⟨ad.block, ad.off + 10, none⟩ = some (.int .i64 x.f0) ∧ W.cell? ⟨ad.block, ad.off + 10 + 1, none⟩ = some (.int .i64 x.f1.f0) ∧ W.cell? ⟨ad.block, ad.off + 10 + 2, none⟩ = some (.int .i64 x.f1.f1) ∧ W.cell? ⟨ad.block, ad.off + 10 + 3, none⟩ = some (.string x.f1.f2) ∧ W.cell? ⟨ad.block, ad.off + 10 + 4, none⟩ = some (.int .i64 x.f2.f0.f0) ∧ W.cell? ⟨ad.block, ad.off + 10 + 5, none⟩ = some (.int .i64 x.f2.f0.f1) ∧ W.cell? ⟨ad.block, ad.off + 10 + 6, none⟩ = some (.int .i64 x.f2.f1.f0) ∧ W.cell? ⟨ad.block, ad.off + 10 + 7, none⟩ = some (.int .i64 x.f2.f1.f1) ∧ W.cell? ⟨ad.block, ad.off + 10 + 8, none⟩ = some (.string x.f3) ∧ W.cell? ⟨ad.block, ad.off + 10 + 9, none⟩ = some v9
theorem El1_below {W0 W : World} {ad : Addr} {x : TN} {v9 : Value} (h : El1 W0 ad x v9) (hb : Below W0.heap.size W0 W) : El1 W ad x v9 :=
  have one : ∀ (p : Addr) (v : Value), W0.cell? p = some v → W.cell? p = some v := fun p v h => (Below.cell hb (World.block_lt_of_cell? _ _ h)).trans h
  ⟨one _ _ h.1, one _ _ h.2.1, one _ _ h.2.2.1, one _ _ h.2.2.2.1, one _ _ h.2.2.2.2.1, one _ _ h.2.2.2.2.2.1, one _ _ h.2.2.2.2.2.2.1, one _ _ h.2.2.2.2.2.2.2.1, one _ _ h.2.2.2.2.2.2.2.2.1, one _ _ h.2.2.2.2.2.2.2.2.2⟩
theorem el_some {W0 : World} {A : Option Addr} {c : Nat} {x : TN} {l : List TN} (hV : vN (fun j => j < W0.heap.size) W0 (.slice A (x :: l).length c) (x :: l)) : ∃ ad, A = some ad := by
  obtain ⟨-, ad, A9, c9, hA, -⟩ := V_at hV 0 x rfl
  exact ⟨ad, hA⟩
theorem el_of0 {W0 : World} {ad : Addr} {c : Nat} {x : TN} {l : List TN} (hV : vN (fun j => j < W0.heap.size) W0 (.slice (some ad) (x :: l).length c) (x :: l)) : ∃ A9 c9, El0 W0 ad x (.slice A9 x.f4.length c9) ∧ vN (fun j => j < W0.heap.size) W0 (.slice A9 x.f4.length c9) x.f4 := by
  obtain ⟨-, ad', A9, c9, hA, g0, g1, g2, g3, g4, g5, g6, g7, g8, g9, hv⟩ := V_at hV 0 x rfl
  obtain rfl := Option.some.inj hA
  exact ⟨A9, c9, ⟨g0, g1, g2, g3, g4, g5, g6, g7, g8, g9⟩, hv⟩
theorem el_of1 {W0 : World} {ad : Addr} {c : Nat} {x y : TN} (hV : vN (fun j => j < W0.heap.size) W0 (.slice (some ad) [y, x].length c) [y, x]) : ∃ A9 c9, El1 W0 ad x (.slice A9 x.f4.length c9) ∧ vN (fun j => j < W0.heap.size) W0 (.slice A9 x.f4.length c9) x.f4 := by
  obtain ⟨-, ad', A9, c9, hA, g0, g1, g2, g3, g4, g5, g6, g7, g8, g9, hv⟩ := V_at hV 1 x rfl
  obtain rfl := Option.some.inj hA
  exact ⟨A9, c9, ⟨g0, g1, g2, g3, g4, g5, g6, g7, g8, g9⟩, hv⟩
set_option maxHeartbeats 4000000 in
set_option maxRecDepth 100000 in
theorem node_cell (t : TN) (A : Option Addr) (c : Nat) (W0 : World) (b : Nat) (s : ByteArray) (h0 : t.f0 = 2) (hc : addr_Name.f t.f2.f0.f0 t.f2.f0.f1 = some s) (hG : G1 W0) : Writes 11 #[ptr b, ndV t (.slice A t.f4.length c)] W0 b s.data.toList := by
  intro W l hI hb hl
  have hu := Tryz.underlying31
  have hu2 := Tryz.underlying50
  have HI0 := Lib.hid hI
  have HB0 := Lib.hid hb
  have BX0 := Lib.hid (blk_new W (ndO t (.slice A t.f4.length c)))
  have HK0 := Lib.hid (Keep.refl b (W.alloc (ndO t (.slice A t.f4.length c))))
  have HNE := Lib.hid (show W.heap.size ≠ b from Nat.ne_of_gt (isW_lt hI))
  have HC := Lib.hid hc
  have HG := Lib.hid hG
  have hl0 : l.length + s.size ≤ 200000000 := by have h := data_len s; omega
  have hk1 : (t.f0 == 1) = false := by rw [h0]; rfl
  have hk2 : (t.f0 == 2) = true := by rw [h0]; rfl
  clear hI hb hc hG h0
  go_enter Tryz.func11, Tryz.ntmps11
  go_wp2_with fail
  go_region_with (first | (go_at_call 29; (with_reducible refine (addr_Name.calls _ _ _ _ ?sg HC.out).mono ?_); (case sg => exact gl_1_1 (by with_reducible repeat (first | exact HB0.out | refine below_alloc ?_ _ | refine pw_below_drewN ?_ _ | refine Below.drew ?_)) HG.out); rintro e w1 ⟨rfl, hbl⟩; have HI1 := Lib.hid (isW_below (B := W0.heap.size) (b := b) (bs := Lib.byteCells (l)) (by with_reducible repeat (first | exact HI0.out | refine isW_alloc ?_ _ | refine isW_drewN ?_ _ | refine isW_drew ?_)) hbl); have HB1 := Lib.hid (below_step (w := W0) (by with_reducible repeat (first | exact HB0.out | refine below_alloc ?_ _ | refine pw_below_drewN ?_ _ | refine Below.drew ?_)) hbl); have HK1 := Lib.hid (Keep.trans (W := W.alloc (ndO t (.slice A t.f4.length c))) (by with_reducible repeat (first | exact HK0.out | refine keep_drewN ?_ _ | refine keep_drew ?_)) (Keep.below (b := b) hbl)); have BX1 := Lib.hid (Keep.box (t := t) (v9 := .slice A t.f4.length c) (q := W.heap.size) (Keep.below (b := b) hbl) (by with_reducible repeat (first | exact BX0.out | exact blk_new _ _ | refine blk_alloc ?_ _ | refine blk_drewN ?_ _ | refine blk_drew ?_)) HNE.out); (try clear c0 c1 c2 c3 c4 c5 c6 c7 c8 c9 z0 z1 z2 z3 z4 z5 z6 z7 z8 z9); obtain ⟨⟨c0, c1, c2, c3, c4, c5, c6, c7, c8, c9⟩, z0, z1, z2, z3, z4, z5, z6, z7, z8, z9⟩ := z10 BX1.out) | (go_at_call 27; (fail_if_success have := HI2); (with_reducible refine (w_more (B := W0.heap.size) (b := b) (l := l) (W0 := W0) (by with_reducible repeat (first | exact HI1.out | refine isW_alloc ?_ _ | refine isW_drewN ?_ _ | refine isW_drew ?_)) rfl (by with_reducible repeat (first | exact HB1.out | refine below_alloc ?_ _ | refine pw_below_drewN ?_ _ | refine Below.drew ?_)) s ?hl).mono ?_); (case hl => exact hl0); rintro e w2 ⟨v2, rfl, hI, hB, hK⟩; have HI2 := Lib.hid hI; have HB2 := Lib.hid (hB); have HK2 := Lib.hid (Keep.trans (W := W.alloc (ndO t (.slice A t.f4.length c))) (by with_reducible repeat (first | exact HK1.out | refine keep_drewN ?_ _ | refine keep_drew ?_)) (hK)); have BX2 := Lib.hid (Keep.box (t := t) (v9 := .slice A t.f4.length c) (q := W.heap.size) (hK) (by with_reducible repeat (first | exact BX1.out | exact blk_new _ _ | refine blk_alloc ?_ _ | refine blk_drewN ?_ _ | refine blk_drew ?_)) HNE.out); (try clear c0 c1 c2 c3 c4 c5 c6 c7 c8 c9 z0 z1 z2 z3 z4 z5 z6 z7 z8 z9); obtain ⟨⟨c0, c1, c2, c3, c4, c5, c6, c7, c8, c9⟩, z0, z1, z2, z3, z4, z5, z6, z7, z8, z9⟩ := z10 BX2.out; clear hI hB hK))
  all_goals go_wp2_with fail
  all_goals go_end0
  all_goals exact ⟨rfl, HI2.out, HB2.out, ((Keep.below (below_alloc (Below.refl _ _) _)).trans HK2.out)⟩
end Go.Proofs.YtnomfbmebafolaaGreatDoor.P

namespace Go.Proofs.YtnomfbmebafolaaGreatDoor.P
open Go.RowKit Go.Proofs.YtnomfbmebafolaaGreatDoorW.PrintWords Go.Proofs.YtnomfbmebafolaaGreatDoorW.PrintLast Go.Proofs.YtnomfbmebafolaaGreatDoorW.PrintMore
open M (I64)
set_option linter.unusedVariables false
set_option linter.unusedSimpArgs false
set_option maxHeartbeats 4000000 in
set_option maxRecDepth 100000 in
theorem node_neg (t : TN) (ad : Addr) (c : Nat) (W0 : World) (b : Nat) (x : TN) (out : List UInt8) (h0 : t.f0 = 4) (h4 : t.f4 = [x]) (hV : vN (fun j => j < W0.heap.size) W0 (.slice (some ad) 1 c) t.f4) (hF : ∀ A9 c9, vN (fun j => j < W0.heap.size) W0 (.slice A9 x.f4.length c9) x.f4 → Writes 30 #[ptr b, ndV x (.slice A9 x.f4.length c9), .int .i64 5] W0 b  out) : Writes 11 #[ptr b, ndV t (.slice (some ad) 1 c)] W0 b (45 :: out) := by
  intro W l hI hb hl
  have hu := Tryz.underlying31
  have hu2 := Tryz.underlying50
  have HI0 := Lib.hid hI
  have HB0 := Lib.hid hb
  have BX0 := Lib.hid (blk_new W (ndO t (.slice (some ad) 1 c)))
  have HK0 := Lib.hid (Keep.refl b (W.alloc (ndO t (.slice (some ad) 1 c))))
  have HNE := Lib.hid (show W.heap.size ≠ b from Nat.ne_of_gt (isW_lt hI))
  rw [h4] at hV
  obtain ⟨A9, c9, hE, hv⟩ := el_of0 (x := x) (l := []) hV
  have HF := Lib.hid (hF A9 c9 hv)
  have HE := Lib.hid hE
  have hl0 : l.length + (⟨#[45]⟩ : ByteArray).size ≤ 200000000 := by simp only [List.length_cons] at hl; show l.length + 1 ≤ _; omega
  have hl1 : (l ++ [45]).length + out.length ≤ 100000000 := by simp only [List.length_append, List.length_cons, List.length_nil] at hl ⊢; omega
  have hk1 : (t.f0 == 1) = false := by rw [h0]; rfl
  have hk2 : (t.f0 == 2) = false := by rw [h0]; rfl
  have hk3 : (t.f0 == 3) = false := by rw [h0]; rfl
  have hk4 : (t.f0 == 4) = true := by rw [h0]; rfl
  clear hI hb hV hF hE hv h0
  go_enter Tryz.func11, Tryz.ntmps11
  go_wp2_with (first | (go_at_call 27; (fail_if_success have := HI1); (with_reducible refine (w_more (B := W0.heap.size) (b := b) (l := l) (W0 := W0) (by with_reducible repeat (first | exact HI0.out | refine isW_alloc ?_ _ | refine isW_drewN ?_ _ | refine isW_drew ?_)) rfl (by with_reducible repeat (first | exact HB0.out | refine below_alloc ?_ _ | refine pw_below_drewN ?_ _ | refine Below.drew ?_)) ⟨#[45]⟩ ?hl).mono ?_); (case hl => exact hl0); rintro e w1 ⟨v1, rfl, hI, hB, hK⟩; have HI1 := Lib.hid hI; have HB1 := Lib.hid (hB); have HK1 := Lib.hid (Keep.trans (W := W.alloc (ndO t (.slice (some ad) 1 c))) (by with_reducible repeat (first | exact HK0.out | refine keep_drewN ?_ _ | refine keep_drew ?_)) (hK)); have BX1 := Lib.hid (Keep.box (t := t) (v9 := .slice (some ad) 1 c) (q := W.heap.size) (hK) (by with_reducible repeat (first | exact BX0.out | exact blk_new _ _ | refine blk_alloc ?_ _ | refine blk_drewN ?_ _ | refine blk_drew ?_)) HNE.out); (try clear c0 c1 c2 c3 c4 c5 c6 c7 c8 c9 z0 z1 z2 z3 z4 z5 z6 z7 z8 z9); obtain ⟨⟨c0, c1, c2, c3, c4, c5, c6, c7, c8, c9⟩, z0, z1, z2, z3, z4, z5, z6, z7, z8, z9⟩ := z10 BX1.out; clear hI hB hK; (try clear e0 e1 e2 e3 e4 e5 e6 e7 e8 e9); obtain ⟨e0, e1, e2, e3, e4, e5, e6, e7, e8, e9⟩ := (El0_below HE.out HB1.out)) | (go_at_call 30; (fail_if_success have := HI2); (with_reducible refine (HF.out.go _ (l ++ [45]) ?si ?sb ?sl).mono ?_); (case si => exact (by with_reducible repeat (first | exact HI1.out | refine isW_alloc ?_ _ | refine isW_drewN ?_ _ | refine isW_drew ?_))); (case sb => exact (by with_reducible repeat (first | exact HB1.out | refine below_alloc ?_ _ | refine pw_below_drewN ?_ _ | refine Below.drew ?_))); (case sl => exact hl1); rintro e w2 ⟨rfl, hI, hB, hK⟩; have HI2 := Lib.hid hI; have HB2 := Lib.hid (hB); have HK2 := Lib.hid (Keep.trans (W := W.alloc (ndO t (.slice (some ad) 1 c))) (by with_reducible repeat (first | exact HK1.out | refine keep_drewN ?_ _ | refine keep_drew ?_)) (hK)); have BX2 := Lib.hid (Keep.box (t := t) (v9 := .slice (some ad) 1 c) (q := W.heap.size) (hK) (by with_reducible repeat (first | exact BX1.out | exact blk_new _ _ | refine blk_alloc ?_ _ | refine blk_drewN ?_ _ | refine blk_drew ?_)) HNE.out); (try clear c0 c1 c2 c3 c4 c5 c6 c7 c8 c9 z0 z1 z2 z3 z4 z5 z6 z7 z8 z9); obtain ⟨⟨c0, c1, c2, c3, c4, c5, c6, c7, c8, c9⟩, z0, z1, z2, z3, z4, z5, z6, z7, z8, z9⟩ := z10 BX2.out; clear hI hB hK))
  go_end0
  have e_ : (l ++ [45]) ++ out = l ++ (45 :: out) := by simp
  have HI5 := HI2.out
  rw [e_] at HI5
  exact ⟨rfl, HI5, HB2.out, ((Keep.below (below_alloc (Below.refl _ _) _)).trans HK2.out)⟩
end Go.Proofs.YtnomfbmebafolaaGreatDoor.P

namespace Go.Proofs.YtnomfbmebafolaaGreatDoor.P
open Go.RowKit Go.Proofs.YtnomfbmebafolaaGreatDoorW.PrintWords Go.Proofs.YtnomfbmebafolaaGreatDoorW.PrintLast Go.Proofs.YtnomfbmebafolaaGreatDoorW.PrintMore
open M (I64)
set_option linter.unusedVariables false
set_option linter.unusedSimpArgs false
theorem sides_calls (k : Nat) (op : ByteArray) (x y : Int) (h : print_sides.f k op = some (x, y)) (w : World) : Calls Tryz.prog 31 #[.string op] w fun e w' => e = .returned (.tuple #[.int .i64 x, .int .i64 y]) ∧ Below w.heap.size w w' :=
  (print_sides.calls k op x y w h).mono (by rintro e w' ⟨h, nd, rfl⟩; exact ⟨h, pw_below_drewN (Below.refl _ _) nd⟩)
set_option maxHeartbeats 4000000 in
set_option maxRecDepth 100000 in
theorem node_binary (t : TN) (ad : Addr) (c : Nat) (W0 : World) (b : Nat) (k : Nat) (x y : TN) (r1 r2 : Int) (o1 o2 : List UInt8) (h0 : t.f0 = 5) (h4 : t.f4 = [x, y]) (hS : print_sides.f k t.f3 = some (r1, r2)) (hV : vN (fun j => j < W0.heap.size) W0 (.slice (some ad) 2 c) t.f4) (hF1 : ∀ A9 c9, vN (fun j => j < W0.heap.size) W0 (.slice A9 x.f4.length c9) x.f4 → Writes 30 #[ptr b, ndV x (.slice A9 x.f4.length c9), .int .i64 r1] W0 b  o1) (hF2 : ∀ A9 c9, vN (fun j => j < W0.heap.size) W0 (.slice A9 y.f4.length c9) y.f4 → Writes 30 #[ptr b, ndV y (.slice A9 y.f4.length c9), .int .i64 r2] W0 b  o2) : Writes 11 #[ptr b, ndV t (.slice (some ad) 2 c)] W0 b (o1 ++ (t.f3.data.toList ++ o2)) := by
  intro W l hI hb hl
  have hu := Tryz.underlying31
  have hu2 := Tryz.underlying50
  have HI0 := Lib.hid hI
  have HB0 := Lib.hid hb
  have BX0 := Lib.hid (blk_new W (ndO t (.slice (some ad) 2 c)))
  have HK0 := Lib.hid (Keep.refl b (W.alloc (ndO t (.slice (some ad) 2 c))))
  have HNE := Lib.hid (show W.heap.size ≠ b from Nat.ne_of_gt (isW_lt hI))
  rw [h4] at hV
  obtain ⟨A9, c9, hE, hv⟩ := el_of0 (x := x) (l := [y]) hV
  obtain ⟨B9, d9, hE2, hv2⟩ := el_of1 (x := y) (y := x) hV
  have HF1 := Lib.hid (hF1 A9 c9 hv)
  have HF2 := Lib.hid (hF2 B9 d9 hv2)
  have HE1 := Lib.hid hE
  have HE2 := Lib.hid hE2
  have HS := Lib.hid hS
  have hds := data_len t.f3
  have hl0 : l.length + o1.length ≤ 100000000 := by simp only [List.length_append] at hl; omega
  have hl1 : (l ++ o1).length + t.f3.size ≤ 200000000 := by simp only [List.length_append] at hl ⊢; omega
  have hl2 : ((l ++ o1) ++ t.f3.data.toList).length + o2.length ≤ 100000000 := by simp only [List.length_append] at hl ⊢; omega
  have hk1 : (t.f0 == 1) = false := by rw [h0]; rfl
  have hk2 : (t.f0 == 2) = false := by rw [h0]; rfl
  have hk3 : (t.f0 == 3) = false := by rw [h0]; rfl
  have hk4 : (t.f0 == 4) = false := by rw [h0]; rfl
  have hk5 : (t.f0 == 5) = true := by rw [h0]; rfl
  clear hI hb hV hF1 hF2 hE hE2 hv hv2 h0 hS h4 hds
  go_enter Tryz.func11, Tryz.ntmps11
  go_wp2_with (first | (go_at_call 31; (with_reducible refine (sides_calls k _ _ _ HS.out _).mono ?_); rintro e w1 ⟨rfl, hbl⟩; have HI1 := Lib.hid (isW_below (B := W0.heap.size) (b := b) (bs := Lib.byteCells (l)) (by with_reducible repeat (first | exact HI0.out | refine isW_alloc ?_ _ | refine isW_drewN ?_ _ | refine isW_drew ?_)) hbl); have HB1 := Lib.hid (below_step (w := W0) (by with_reducible repeat (first | exact HB0.out | refine below_alloc ?_ _ | refine pw_below_drewN ?_ _ | refine Below.drew ?_)) hbl); have HK1 := Lib.hid (Keep.trans (W := W.alloc (ndO t (.slice (some ad) 2 c))) (by with_reducible repeat (first | exact HK0.out | refine keep_drewN ?_ _ | refine keep_drew ?_)) (Keep.below (b := b) hbl)); have BX1 := Lib.hid (Keep.box (t := t) (v9 := .slice (some ad) 2 c) (q := W.heap.size) (Keep.below (b := b) hbl) (by with_reducible repeat (first | exact BX0.out | exact blk_new _ _ | refine blk_alloc ?_ _ | refine blk_drewN ?_ _ | refine blk_drew ?_)) HNE.out); (try clear c0 c1 c2 c3 c4 c5 c6 c7 c8 c9 z0 z1 z2 z3 z4 z5 z6 z7 z8 z9); obtain ⟨⟨c0, c1, c2, c3, c4, c5, c6, c7, c8, c9⟩, z0, z1, z2, z3, z4, z5, z6, z7, z8, z9⟩ := z10 BX1.out; (try clear e0 e1 e2 e3 e4 e5 e6 e7 e8 e9); obtain ⟨e0, e1, e2, e3, e4, e5, e6, e7, e8, e9⟩ := (El0_below HE1.out HB1.out)) | (go_at_call 30; (fail_if_success have := HI2); (with_reducible refine (HF1.out.go _ (l) ?si ?sb ?sl).mono ?_); (case si => exact (by with_reducible repeat (first | exact HI1.out | refine isW_alloc ?_ _ | refine isW_drewN ?_ _ | refine isW_drew ?_))); (case sb => exact (by with_reducible repeat (first | exact HB1.out | refine below_alloc ?_ _ | refine pw_below_drewN ?_ _ | refine Below.drew ?_))); (case sl => exact hl0); rintro e w2 ⟨rfl, hI, hB, hK⟩; have HI2 := Lib.hid hI; have HB2 := Lib.hid (hB); have HK2 := Lib.hid (Keep.trans (W := W.alloc (ndO t (.slice (some ad) 2 c))) (by with_reducible repeat (first | exact HK1.out | refine keep_drewN ?_ _ | refine keep_drew ?_)) (hK)); have BX2 := Lib.hid (Keep.box (t := t) (v9 := .slice (some ad) 2 c) (q := W.heap.size) (hK) (by with_reducible repeat (first | exact BX1.out | exact blk_new _ _ | refine blk_alloc ?_ _ | refine blk_drewN ?_ _ | refine blk_drew ?_)) HNE.out); (try clear c0 c1 c2 c3 c4 c5 c6 c7 c8 c9 z0 z1 z2 z3 z4 z5 z6 z7 z8 z9); obtain ⟨⟨c0, c1, c2, c3, c4, c5, c6, c7, c8, c9⟩, z0, z1, z2, z3, z4, z5, z6, z7, z8, z9⟩ := z10 BX2.out; clear hI hB hK))
  go_region_with (go_at_call 27; (fail_if_success have := HI3); (with_reducible refine (w_more (B := W0.heap.size) (b := b) (l := l ++ o1) (W0 := W0) (by with_reducible repeat (first | exact HI2.out | refine isW_alloc ?_ _ | refine isW_drewN ?_ _ | refine isW_drew ?_)) rfl (by with_reducible repeat (first | exact HB2.out | refine below_alloc ?_ _ | refine pw_below_drewN ?_ _ | refine Below.drew ?_)) t.f3 ?hl).mono ?_); (case hl => exact hl1); rintro e w3 ⟨v3, rfl, hI, hB, hK⟩; have HI3 := Lib.hid hI; have HB3 := Lib.hid (hB); have HK3 := Lib.hid (Keep.trans (W := W.alloc (ndO t (.slice (some ad) 2 c))) (by with_reducible repeat (first | exact HK2.out | refine keep_drewN ?_ _ | refine keep_drew ?_)) (hK)); have BX3 := Lib.hid (Keep.box (t := t) (v9 := .slice (some ad) 2 c) (q := W.heap.size) (hK) (by with_reducible repeat (first | exact BX2.out | exact blk_new _ _ | refine blk_alloc ?_ _ | refine blk_drewN ?_ _ | refine blk_drew ?_)) HNE.out); (try clear c0 c1 c2 c3 c4 c5 c6 c7 c8 c9 z0 z1 z2 z3 z4 z5 z6 z7 z8 z9); obtain ⟨⟨c0, c1, c2, c3, c4, c5, c6, c7, c8, c9⟩, z0, z1, z2, z3, z4, z5, z6, z7, z8, z9⟩ := z10 BX3.out; clear hI hB hK; (try clear e0 e1 e2 e3 e4 e5 e6 e7 e8 e9); obtain ⟨e0, e1, e2, e3, e4, e5, e6, e7, e8, e9⟩ := (El1_below HE2.out HB3.out))
  all_goals go_wp2_with (go_at_call 30; (fail_if_success have := HI4); (with_reducible refine (HF2.out.go _ ((l ++ o1) ++ t.f3.data.toList) ?si ?sb ?sl).mono ?_); (case si => exact (by with_reducible repeat (first | exact HI3.out | refine isW_alloc ?_ _ | refine isW_drewN ?_ _ | refine isW_drew ?_))); (case sb => exact (by with_reducible repeat (first | exact HB3.out | refine below_alloc ?_ _ | refine pw_below_drewN ?_ _ | refine Below.drew ?_))); (case sl => exact hl2); rintro e w4 ⟨rfl, hI, hB, hK⟩; have HI4 := Lib.hid hI; have HB4 := Lib.hid (hB); have HK4 := Lib.hid (Keep.trans (W := W.alloc (ndO t (.slice (some ad) 2 c))) (by with_reducible repeat (first | exact HK3.out | refine keep_drewN ?_ _ | refine keep_drew ?_)) (hK)); have BX4 := Lib.hid (Keep.box (t := t) (v9 := .slice (some ad) 2 c) (q := W.heap.size) (hK) (by with_reducible repeat (first | exact BX3.out | exact blk_new _ _ | refine blk_alloc ?_ _ | refine blk_drewN ?_ _ | refine blk_drew ?_)) HNE.out); (try clear c0 c1 c2 c3 c4 c5 c6 c7 c8 c9 z0 z1 z2 z3 z4 z5 z6 z7 z8 z9); obtain ⟨⟨c0, c1, c2, c3, c4, c5, c6, c7, c8, c9⟩, z0, z1, z2, z3, z4, z5, z6, z7, z8, z9⟩ := z10 BX4.out; clear hI hB hK)
  all_goals go_end0
  all_goals have e_ : ((l ++ o1) ++ t.f3.data.toList) ++ o2 = l ++ (o1 ++ (t.f3.data.toList ++ o2)) := by simp
  all_goals have HI5 := HI4.out
  all_goals rw [e_] at HI5
  all_goals exact ⟨rfl, HI5, HB4.out, ((Keep.below (below_alloc (Below.refl _ _) _)).trans HK4.out)⟩
end Go.Proofs.YtnomfbmebafolaaGreatDoor.P

namespace Go.Proofs.YtnomfbmebafolaaGreatDoor.P
open Go.RowKit Go.Proofs.YtnomfbmebafolaaGreatDoorW.PrintWords Go.Proofs.YtnomfbmebafolaaGreatDoorW.PrintLast Go.Proofs.YtnomfbmebafolaaGreatDoorW.PrintMore
attribute [local go_sem] max2_int min2_int max_two min_two max_three min_three max_four min_four   -- for this text's walks alone
set_option linter.unusedVariables false
set_option linter.unusedSimpArgs false
def tree_Good.f (k : Nat) (a0_0 : Int) (a0_1 : Int) (a0_2 : Int) (a0_3 : ByteArray) (a0_4 : Int) (a0_5 : Int) (a0_6 : Int) (a0_7 : Int) (a0_8 : ByteArray) (l0_9 : List (S31)) : Option (Bool) := (tree_small.f a0_0 a0_1 a0_2 a0_3 a0_4 a0_5 a0_6 a0_7 a0_8 l0_9).bind fun t177 => (if t177 = true then ((tree_all.f k a0_0 a0_1 a0_2 a0_3 a0_4 a0_5 a0_6 a0_7 a0_8 l0_9).bind fun t178 => (if t178 = true then ((tree_depth.f k a0_0 a0_1 a0_2 a0_3 a0_4 a0_5 a0_6 a0_7 a0_8 l0_9).bind fun t179 => (some (decide (t179 ≤ 16)))) else (some false))) else (some false))
set_option maxHeartbeats 8000000 in
set_option maxRecDepth 100000 in
theorem tree_Good.calls (k : Nat) (a0_0 : Int) (a0_1 : Int) (a0_2 : Int) (a0_3 : ByteArray) (a0_4 : Int) (a0_5 : Int) (a0_6 : Int) (a0_7 : Int) (a0_8 : ByteArray) (A0_9 : Option Addr) (c0_9 : Nat) (l0_9 : List (S31)) (r : Bool) (w : World) (hr0_9 : Kd.C k31 w A0_9 l0_9.length l0_9) (hc0_9 : l0_9.length ≤ c0_9) (h : tree_Good.f k a0_0 a0_1 a0_2 a0_3 a0_4 a0_5 a0_6 a0_7 a0_8 l0_9 = some r) :
    Calls Tryz.prog 10 #[.agg #[.int .i64 a0_0, .int .i64 a0_1, .int .i64 a0_2, .string a0_3, .int .i64 a0_4, .int .i64 a0_5, .int .i64 a0_6, .int .i64 a0_7, .string a0_8, .slice A0_9 l0_9.length c0_9]] w fun e w' => e = .returned (.bool r) ∧ Below w.heap.size w w' := by
  have hu31 := Tryz.underlying31
  have HR0_9 := Aside0.mk hr0_9
  have HC0_9 := Aside0.mk hc0_9
  clear hr0_9 hc0_9
  have HB := Aside0.mk (Below.refl w.heap.size w)
  have H : ((tree_small.f a0_0 a0_1 a0_2 a0_3 a0_4 a0_5 a0_6 a0_7 a0_8 l0_9).bind fun t177 => (if t177 = true then ((tree_all.f k a0_0 a0_1 a0_2 a0_3 a0_4 a0_5 a0_6 a0_7 a0_8 l0_9).bind fun t178 => (if t178 = true then ((tree_depth.f k a0_0 a0_1 a0_2 a0_3 a0_4 a0_5 a0_6 a0_7 a0_8 l0_9).bind fun t179 => (some (decide (t179 ≤ 16)))) else (some false))) else (some false))) = some r := h
  clear h
  replace H := Option.bind_eq_some_iff.mp H
  obtain ⟨t177, A20, H⟩ := H
  replace H : (if t177 = true then ((tree_all.f k a0_0 a0_1 a0_2 a0_3 a0_4 a0_5 a0_6 a0_7 a0_8 l0_9).bind fun t178 => (if t178 = true then ((tree_depth.f k a0_0 a0_1 a0_2 a0_3 a0_4 a0_5 a0_6 a0_7 a0_8 l0_9).bind fun t179 => (some (decide (t179 ≤ 16)))) else (some false))) else (some false)) = some r := H
  have A2 := Aside0.mk A20
  clear A20
  by_cases c3 : t177 = true
  · subst c3
    have H1 : ((tree_all.f k a0_0 a0_1 a0_2 a0_3 a0_4 a0_5 a0_6 a0_7 a0_8 l0_9).bind fun t178 => (if t178 = true then ((tree_depth.f k a0_0 a0_1 a0_2 a0_3 a0_4 a0_5 a0_6 a0_7 a0_8 l0_9).bind fun t179 => (some (decide (t179 ≤ 16)))) else (some false))) = some r := by rw [if_pos rfl] at H; exact H
    clear H
    have H := H1
    clear H1
    replace H := Option.bind_eq_some_iff.mp H
    obtain ⟨t178, A40, H⟩ := H
    replace H : (if t178 = true then ((tree_depth.f k a0_0 a0_1 a0_2 a0_3 a0_4 a0_5 a0_6 a0_7 a0_8 l0_9).bind fun t179 => (some (decide (t179 ≤ 16)))) else (some false)) = some r := H
    have A4 := Aside0.mk A40
    clear A40
    by_cases c5 : t178 = true
    · subst c5
      have H1 : ((tree_depth.f k a0_0 a0_1 a0_2 a0_3 a0_4 a0_5 a0_6 a0_7 a0_8 l0_9).bind fun t179 => (some (decide (t179 ≤ 16)))) = some r := by rw [if_pos rfl] at H; exact H
      clear H
      have H := H1
      clear H1
      replace H := Option.bind_eq_some_iff.mp H
      obtain ⟨t179, A60, H⟩ := H
      replace H : (some (decide (t179 ≤ 16))) = some r := H
      have A6 := Aside0.mk A60
      clear A60
      obtain rfl := Option.some.inj H
      go_enter Tryz.func10, Tryz.ntmps10
      go_wp2_with (first | ((with_reducible refine gate_dst (N := 1) rfl ?_); refine box_event ?hg (N := 1) ?hd (cs := #[.int .i64 a0_0, .int .i64 a0_1, .int .i64 a0_2, .string a0_3, .int .i64 a0_4, .int .i64 a0_5, .int .i64 a0_6, .int .i64 a0_7, .string a0_8, .slice A0_9 l0_9.length c0_9]) (t := 31) ?hr ?_; (case hd => rfl); (case hg => rfl); (case hr => first | (go_simp; done) | (go_simp; rfl)); intro gb176 hg w7 hbox hb; have n0_ := Aside0.mk (below_step zz1 hb); have n1_ := Aside0.mk (hbox); have n2_ := Aside0.mk ((by rw [hg]; exact (below_size zz1) : w.heap.size ≤ gb176)); have n3_ := n2_; clear HB; have HB := n0_; have BK176 := n1_; have GW176 := n2_; have GE176 := n3_; clear n0_ n1_ n2_ n3_; clear hb hbox hg; obtain ⟨_, _, _, _, _, _, _, _, _, _, _, _, _, _, _, _, _, _, _, _⟩ := zC10 BK176.out) | ((with_reducible refine gate_callee (f := 24) rfl ?_); refine goesL_ (some 4) rfl rfl Tryz.func24 (by kernel_rfl) rfl #[.agg #[.int .i64 a0_0, .int .i64 a0_1, .int .i64 a0_2, .string a0_3, .int .i64 a0_4, .int .i64 a0_5, .int .i64 a0_6, .int .i64 a0_7, .string a0_8, .slice A0_9 l0_9.length c0_9]] rfl zz25 ?_; (with_reducible refine (tree_small.calls a0_0 a0_1 a0_2 a0_3 a0_4 a0_5 a0_6 a0_7 a0_8 _ _ l0_9 true _ ?side1 ?side2 A2.out).mono ?_); (case side1 => repeat (first | exact (Kd.C_below HR0_9.out HB.out) | (with_reducible refine Kd.C_alloc ?_ _) | (with_reducible refine Kd.C_drewN ?_ _) | (with_reducible refine Kd.C_drew ?_))); (case side2 => exact HC0_9.out); rintro e w9 ⟨rfl, hb⟩; refine ⟨_, rfl, ?_⟩; have n0_ := Aside0.mk (blk_below (g := gb176) (o := .cells #[.int .i64 a0_0, .int .i64 a0_1, .int .i64 a0_2, .string a0_3, .int .i64 a0_4, .int .i64 a0_5, .int .i64 a0_6, .int .i64 a0_7, .string a0_8, .slice A0_9 l0_9.length c0_9] 31 (0, 0)) (zB BK176.out) hb); have n1_ := Aside0.mk (below_step zz7 hb); clear BK176; clear HB; have BK176 := n0_; have HB := n1_; clear n0_ n1_; (try clear hb); (try clear hb2); (try clear hk); (try clear hi); obtain ⟨_, _, _, _, _, _, _, _, _, _, _, _, _, _, _, _, _, _, _, _⟩ := zC10 BK176.out) | (go_at_call 25; (with_reducible refine (tree_all.calls k a0_0 a0_1 a0_2 a0_3 a0_4 a0_5 a0_6 a0_7 a0_8 _ _ l0_9 true _ ?side1 ?side2 A4.out).mono ?_); (case side1 => repeat (first | exact (Kd.C_below HR0_9.out HB.out) | (with_reducible refine Kd.C_alloc ?_ _) | (with_reducible refine Kd.C_drewN ?_ _) | (with_reducible refine Kd.C_drew ?_))); (case side2 => exact HC0_9.out); rintro e w11 ⟨rfl, hb⟩; have n0_ := Aside0.mk (blk_below (g := gb176) (o := .cells #[.int .i64 a0_0, .int .i64 a0_1, .int .i64 a0_2, .string a0_3, .int .i64 a0_4, .int .i64 a0_5, .int .i64 a0_6, .int .i64 a0_7, .string a0_8, .slice A0_9 l0_9.length c0_9] 31 (0, 0)) (zB BK176.out) hb); have n1_ := Aside0.mk (below_step zz7 hb); clear BK176; clear HB; have BK176 := n0_; have HB := n1_; clear n0_ n1_; (try clear hb); (try clear hb2); (try clear hk); (try clear hi); obtain ⟨hcz12_0, hcz12_1, hcz12_2, hcz12_3, hcz12_4, hcz12_5, hcz12_6, hcz12_7, hcz12_8, hcz12_9, hfz12_0, hfz12_1, hfz12_2, hfz12_3, hfz12_4, hfz12_5, hfz12_6, hfz12_7, hfz12_8, hfz12_9⟩ := zC10 BK176.out) | (go_at_call 26; (with_reducible refine (tree_depth.calls k a0_0 a0_1 a0_2 a0_3 a0_4 a0_5 a0_6 a0_7 a0_8 _ _ l0_9 t179 _ ?side1 ?side2 A6.out).mono ?_); (case side1 => repeat (first | exact (Kd.C_below HR0_9.out HB.out) | (with_reducible refine Kd.C_alloc ?_ _) | (with_reducible refine Kd.C_drewN ?_ _) | (with_reducible refine Kd.C_drew ?_))); (case side2 => exact HC0_9.out); rintro e w13 ⟨rfl, hb⟩; have n0_ := Aside0.mk (blk_below (g := gb176) (o := .cells #[.int .i64 a0_0, .int .i64 a0_1, .int .i64 a0_2, .string a0_3, .int .i64 a0_4, .int .i64 a0_5, .int .i64 a0_6, .int .i64 a0_7, .string a0_8, .slice A0_9 l0_9.length c0_9] 31 (0, 0)) (zB BK176.out) hb); have n1_ := Aside0.mk (below_step zz7 hb); clear BK176; clear HB; have BK176 := n0_; have HB := n1_; clear n0_ n1_; (try clear hb); (try clear hb2); (try clear hk); (try clear hi)))
      go_ret
      exact ⟨zz26, zz7⟩
    · replace c5 := Bool.eq_false_iff.mpr c5
      subst c5
      have H1 : (some false) = some r := by rw [if_neg (show ¬ (false = true) by decide)] at H; exact H
      clear H
      have H := H1
      clear H1
      obtain rfl := Option.some.inj H
      go_enter Tryz.func10, Tryz.ntmps10
      go_wp2_with (first | ((with_reducible refine gate_dst (N := 1) rfl ?_); refine box_event ?hg (N := 1) ?hd (cs := #[.int .i64 a0_0, .int .i64 a0_1, .int .i64 a0_2, .string a0_3, .int .i64 a0_4, .int .i64 a0_5, .int .i64 a0_6, .int .i64 a0_7, .string a0_8, .slice A0_9 l0_9.length c0_9]) (t := 31) ?hr ?_; (case hd => rfl); (case hg => rfl); (case hr => first | (go_simp; done) | (go_simp; rfl)); intro gb176 hg w14 hbox hb; have n0_ := Aside0.mk (below_step zz1 hb); have n1_ := Aside0.mk (hbox); have n2_ := Aside0.mk ((by rw [hg]; exact (below_size zz1) : w.heap.size ≤ gb176)); have n3_ := n2_; clear HB; have HB := n0_; have BK176 := n1_; have GW176 := n2_; have GE176 := n3_; clear n0_ n1_ n2_ n3_; clear hb hbox hg; obtain ⟨_, _, _, _, _, _, _, _, _, _, _, _, _, _, _, _, _, _, _, _⟩ := zC10 BK176.out) | ((with_reducible refine gate_callee (f := 24) rfl ?_); refine goesL_ (some 4) rfl rfl Tryz.func24 (by kernel_rfl) rfl #[.agg #[.int .i64 a0_0, .int .i64 a0_1, .int .i64 a0_2, .string a0_3, .int .i64 a0_4, .int .i64 a0_5, .int .i64 a0_6, .int .i64 a0_7, .string a0_8, .slice A0_9 l0_9.length c0_9]] rfl zz25 ?_; (with_reducible refine (tree_small.calls a0_0 a0_1 a0_2 a0_3 a0_4 a0_5 a0_6 a0_7 a0_8 _ _ l0_9 true _ ?side1 ?side2 A2.out).mono ?_); (case side1 => repeat (first | exact (Kd.C_below HR0_9.out HB.out) | (with_reducible refine Kd.C_alloc ?_ _) | (with_reducible refine Kd.C_drewN ?_ _) | (with_reducible refine Kd.C_drew ?_))); (case side2 => exact HC0_9.out); rintro e w16 ⟨rfl, hb⟩; refine ⟨_, rfl, ?_⟩; have n0_ := Aside0.mk (blk_below (g := gb176) (o := .cells #[.int .i64 a0_0, .int .i64 a0_1, .int .i64 a0_2, .string a0_3, .int .i64 a0_4, .int .i64 a0_5, .int .i64 a0_6, .int .i64 a0_7, .string a0_8, .slice A0_9 l0_9.length c0_9] 31 (0, 0)) (zB BK176.out) hb); have n1_ := Aside0.mk (below_step zz7 hb); clear BK176; clear HB; have BK176 := n0_; have HB := n1_; clear n0_ n1_; (try clear hb); (try clear hb2); (try clear hk); (try clear hi); obtain ⟨_, _, _, _, _, _, _, _, _, _, _, _, _, _, _, _, _, _, _, _⟩ := zC10 BK176.out) | (go_at_call 25; (with_reducible refine (tree_all.calls k a0_0 a0_1 a0_2 a0_3 a0_4 a0_5 a0_6 a0_7 a0_8 _ _ l0_9 false _ ?side1 ?side2 A4.out).mono ?_); (case side1 => repeat (first | exact (Kd.C_below HR0_9.out HB.out) | (with_reducible refine Kd.C_alloc ?_ _) | (with_reducible refine Kd.C_drewN ?_ _) | (with_reducible refine Kd.C_drew ?_))); (case side2 => exact HC0_9.out); rintro e w18 ⟨rfl, hb⟩; have n0_ := Aside0.mk (blk_below (g := gb176) (o := .cells #[.int .i64 a0_0, .int .i64 a0_1, .int .i64 a0_2, .string a0_3, .int .i64 a0_4, .int .i64 a0_5, .int .i64 a0_6, .int .i64 a0_7, .string a0_8, .slice A0_9 l0_9.length c0_9] 31 (0, 0)) (zB BK176.out) hb); have n1_ := Aside0.mk (below_step zz7 hb); clear BK176; clear HB; have BK176 := n0_; have HB := n1_; clear n0_ n1_; (try clear hb); (try clear hb2); (try clear hk); (try clear hi)))
      go_ret
      exact ⟨zz26, zz7⟩
  · replace c3 := Bool.eq_false_iff.mpr c3
    subst c3
    have H1 : (some false) = some r := by rw [if_neg (show ¬ (false = true) by decide)] at H; exact H
    clear H
    have H := H1
    clear H1
    obtain rfl := Option.some.inj H
    go_enter Tryz.func10, Tryz.ntmps10
    go_wp2_with (first | ((with_reducible refine gate_dst (N := 1) rfl ?_); refine box_event ?hg (N := 1) ?hd (cs := #[.int .i64 a0_0, .int .i64 a0_1, .int .i64 a0_2, .string a0_3, .int .i64 a0_4, .int .i64 a0_5, .int .i64 a0_6, .int .i64 a0_7, .string a0_8, .slice A0_9 l0_9.length c0_9]) (t := 31) ?hr ?_; (case hd => rfl); (case hg => rfl); (case hr => first | (go_simp; done) | (go_simp; rfl)); intro gb176 hg w19 hbox hb; have n0_ := Aside0.mk (below_step zz1 hb); have n1_ := Aside0.mk (hbox); have n2_ := Aside0.mk ((by rw [hg]; exact (below_size zz1) : w.heap.size ≤ gb176)); have n3_ := n2_; clear HB; have HB := n0_; have BK176 := n1_; have GW176 := n2_; have GE176 := n3_; clear n0_ n1_ n2_ n3_; clear hb hbox hg; obtain ⟨_, _, _, _, _, _, _, _, _, _, _, _, _, _, _, _, _, _, _, _⟩ := zC10 BK176.out) | ((with_reducible refine gate_callee (f := 24) rfl ?_); refine goesL_ (some 4) rfl rfl Tryz.func24 (by kernel_rfl) rfl #[.agg #[.int .i64 a0_0, .int .i64 a0_1, .int .i64 a0_2, .string a0_3, .int .i64 a0_4, .int .i64 a0_5, .int .i64 a0_6, .int .i64 a0_7, .string a0_8, .slice A0_9 l0_9.length c0_9]] rfl zz25 ?_; (with_reducible refine (tree_small.calls a0_0 a0_1 a0_2 a0_3 a0_4 a0_5 a0_6 a0_7 a0_8 _ _ l0_9 false _ ?side1 ?side2 A2.out).mono ?_); (case side1 => repeat (first | exact (Kd.C_below HR0_9.out HB.out) | (with_reducible refine Kd.C_alloc ?_ _) | (with_reducible refine Kd.C_drewN ?_ _) | (with_reducible refine Kd.C_drew ?_))); (case side2 => exact HC0_9.out); rintro e w21 ⟨rfl, hb⟩; refine ⟨_, rfl, ?_⟩; have n0_ := Aside0.mk (blk_below (g := gb176) (o := .cells #[.int .i64 a0_0, .int .i64 a0_1, .int .i64 a0_2, .string a0_3, .int .i64 a0_4, .int .i64 a0_5, .int .i64 a0_6, .int .i64 a0_7, .string a0_8, .slice A0_9 l0_9.length c0_9] 31 (0, 0)) (zB BK176.out) hb); have n1_ := Aside0.mk (below_step zz7 hb); clear BK176; clear HB; have BK176 := n0_; have HB := n1_; clear n0_ n1_; (try clear hb); (try clear hb2); (try clear hk); (try clear hi)))
    go_ret
    exact ⟨zz26, zz7⟩
end Go.Proofs.YtnomfbmebafolaaGreatDoor.P

namespace Go.Proofs.YtnomfbmebafolaaGreatDoor.P
open Go.RowKit Go.Proofs.YtnomfbmebafolaaGreatDoorW.PrintWords Go.Proofs.YtnomfbmebafolaaGreatDoorW.PrintLast Go.Proofs.YtnomfbmebafolaaGreatDoorW.PrintMore
open M (I64)
set_option linter.unusedVariables false
set_option linter.unusedSimpArgs false
theorem least_text (k : Nat) (t : TN) (A : Option Addr) (c : Nat) (W0 : World) (b : Nat) (row : Int) (out : List UInt8) (hV : vN (fun j => j < W0.heap.size) W0 (.slice A t.f4.length c) t.f4)
    (ih : ∀ out, textT k t = some out → Writes 11 #[ptr b, ndV t (.slice A t.f4.length c)] W0 b out)
    (h : leastL (textT k) k t row = some out) : Writes 30 #[ptr b, ndV t (.slice A t.f4.length c), .int .i64 row] W0 b out := by
  unfold leastL at h
  cases hr : rowO k t with
  | none => rw [hr] at h; cases h
  | some r =>
    rw [hr] at h
    dsimp only at h
    cases ht : textT k t with
    | none => rw [ht] at h; cases h
    | some l =>
      rw [ht] at h
      dsimp only at h
      by_cases hle : row ≤ r
      · rw [if_pos hle] at h
        obtain rfl := Option.some.inj h
        exact least_plain t A c W0 b k row r l hV hr (ih l ht) hle
      · rw [if_neg hle] at h
        obtain rfl := Option.some.inj h
        exact least_paren t A c W0 b k row r l hV hr (ih l ht) hle
theorem node_text : ∀ (k : Nat) (t : TN) (A : Option Addr) (c : Nat) (W0 : World) (b : Nat) (out : List UInt8), textT k t = some out → vN (fun j => j < W0.heap.size) W0 (.slice A t.f4.length c) t.f4 → G1 W0 →
    Writes 11 #[ptr b, ndV t (.slice A t.f4.length c)] W0 b out := by
  intro k
  induction k with
  | zero => intro t A c W0 b out h; cases h
  | succ k ih =>
    intro t A c W0 b out h hV hG
    rw [textT] at h
    by_cases h1 : t.f0 = 1
    · rw [if_pos h1] at h
      obtain ⟨s, hs, rfl⟩ := Option.map_eq_some_iff.1 h
      exact node_const t _ W0 b s h1 hs hG
    rw [if_neg h1] at h
    by_cases h2 : t.f0 = 2
    · rw [if_pos h2] at h
      obtain ⟨s, hs, rfl⟩ := Option.map_eq_some_iff.1 h
      exact node_cell t A c W0 b s h2 hs hG
    rw [if_neg h2] at h
    by_cases h4 : t.f0 = 4
    · rw [if_pos h4] at h
      cases e : t.f4 with
      | nil => rw [e] at h; cases h
      | cons x l =>
        rw [e] at h
        cases l with
        | cons y l => cases h
        | nil =>
          dsimp only at h
          obtain ⟨o, ho, rfl⟩ := Option.map_eq_some_iff.1 h
          rw [e] at hV
          obtain ⟨ad, rfl⟩ := el_some hV
          refine node_neg t ad c W0 b x o h4 e (by rw [e]; exact hV) (fun A9 c9 hv => least_text k x A9 c9 W0 b 5 o hv (fun out hx => ih x A9 c9 W0 b out hx hv hG) ho)
    rw [if_neg h4] at h
    by_cases h5 : t.f0 = 5
    · rw [if_pos h5] at h
      cases e : t.f4 with
      | nil => rw [e] at h; cases h
      | cons x l =>
        rw [e] at h
        cases l with
        | nil => cases h
        | cons y l =>
          cases l with
          | cons z l => cases h
          | nil =>
            dsimp only at h
            cases hs : print_sides.f k t.f3 with
            | none => rw [hs] at h; cases h
            | some r =>
              obtain ⟨r1, r2⟩ := r
              rw [hs] at h
              dsimp only at h
              cases hp : leastL (textT k) k x r1 with
              | none => rw [hp] at h; cases h
              | some p =>
                rw [hp] at h
                dsimp only at h
                cases hq : leastL (textT k) k y r2 with
                | none => rw [hq] at h; cases h
                | some q =>
                  rw [hq] at h
                  obtain rfl := Option.some.inj h
                  rw [e] at hV
                  obtain ⟨ad, rfl⟩ := el_some hV
                  exact node_binary t ad c W0 b k x y r1 r2 p q h5 e hs (by rw [e]; exact hV) (fun A9 c9 hv => least_text k x A9 c9 W0 b r1 p hv (fun out hx => ih x A9 c9 W0 b out hx hv hG) hp) (fun A9 c9 hv => least_text k y A9 c9 W0 b r2 q hv (fun out hx => ih y A9 c9 W0 b out hx hv hG) hq)
    rw [if_neg h5] at h
    cases h
def goodO (k : Nat) (t : TN) : Option Bool := tree_Good.f k t.f0 t.f1.f0 t.f1.f1 t.f1.f2 t.f2.f0.f0 t.f2.f0.f1 t.f2.f1.f0 t.f2.f1.f1 t.f3 t.f4
def textO (k : Nat) (t : TN) : Option (ByteArray × Int) :=
  match goodO k t with
  | none => none
  | some false => some (⟨#[]⟩, 11)
  | some true => match textT k t with
    | none => none
    | some l => if l = [] then none else if l.length ≤ 100000000 then (if 300 < l.length then some (⟨#[]⟩, 2) else some (⟨l.toArray⟩, 0)) else none
abbrev TextC (k : Nat) (t : TN) (A : Option Addr) (c : Nat) (W : World) (s : ByteArray) (e0 : Int) : Prop := Calls Tryz.prog 5 #[ndV t (.slice A t.f4.length c)] W fun e W' => e = .returned (.tuple #[.string s, .int .i64 e0]) ∧ Below W.heap.size W W'
set_option maxHeartbeats 4000000 in
set_option maxRecDepth 100000 in
theorem text_bad (k : Nat) (t : TN) (A : Option Addr) (c : Nat) (W : World) (hC : Kd.C k31 W A t.f4.length t.f4) (hc : t.f4.length ≤ c) (hg : goodO k t = some false) : TextC k t A c W ⟨#[]⟩ 11 := by
  have hu := Tryz.underlying31
  have HC := Lib.hid hC
  have HL := Lib.hid hc
  have HGd := Lib.hid (show tree_Good.f k t.f0 t.f1.f0 t.f1.f1 t.f1.f2 t.f2.f0.f0 t.f2.f0.f1 t.f2.f1.f0 t.f2.f1.f1 t.f3 t.f4 = some false from hg)
  clear hC hc hg
  go_enter Tryz.func5, Tryz.ntmps5
  go_wp2_with (go_at_call 10; (with_reducible refine (tree_Good.calls k _ _ _ _ _ _ _ _ _ A c _ false _ ?sc HL.out HGd.out).mono ?_); (case sc => exact Kd.C_alloc HC.out _); rintro e w1 ⟨rfl, hb⟩; have HB1 := Lib.hid (Below.of_alloc hb); clear hb)
  go_ret2
  exact ⟨rfl, HB1.out⟩
set_option maxHeartbeats 4000000 in
set_option maxRecDepth 100000 in
theorem text_walk (k : Nat) (t : TN) (A : Option Addr) (c : Nat) (W : World) (l : List UInt8) (n : Int) (q : Bool) (hC : Kd.C k31 W A t.f4.length t.f4) (hc : t.f4.length ≤ c) (hg : goodO k t = some true) (hG : G1 W)
    (ht : textT k t = some l) (h0 : l ≠ []) (hn : l.length ≤ 100000000) (hnn : (l.length : Int) = n) (hq : decide (300 < n) = q) : TextC k t A c W (if q then ⟨#[]⟩ else ⟨l.toArray⟩) (if q then 2 else 0) := by
  have hu := Tryz.underlying31
  have hu2 := Tryz.underlying50
  have HC := Lib.hid hC
  have HL := Lib.hid hc
  have HG := Lib.hid hG
  have HT := Lib.hid ht
  have HN := Lib.hid (show ([] : List UInt8).length + l.length ≤ 100000000 by simpa using hn)
  have HN2 := Lib.hid (show (Lib.byteCells l).length ≤ 140737488355328 by rw [Lib.byteCells_length]; omega)
  have HN3 := Lib.hid (show ((Lib.byteCells l).length : Int) = n by rw [Lib.byteCells_length]; exact hnn)
  have H0 := Lib.hid h0
  have BX0 := Lib.hid (blk_new W (ndO t (.slice A t.f4.length c)))
  have HGd := Lib.hid (show tree_Good.f k t.f0 t.f1.f0 t.f1.f1 t.f1.f2 t.f2.f0.f0 t.f2.f0.f1 t.f2.f1.f0 t.f2.f1.f1 t.f3 t.f4 = some true from hg)
  have hLen : ∀ (B b : Nat) (w : World), IsW B b (Lib.byteCells l) w → Calls Tryz.prog 12 #[.pointer (some ⟨b, 0, none⟩)] w fun e w' => e = .returned (.int .i64 n) ∧ w' = w := by
    intro B b w h
    have := w_len B b _ w h HN2.out
    rw [HN3.out] at this
    exact this
  have HLen := Lib.hid hLen
  clear hC hc hg hG ht h0 hn hnn hLen
  go_enter Tryz.func5, Tryz.ntmps5
  cases q
  all_goals go_wp2_with (first | (go_at_call 10; (with_reducible refine (tree_Good.calls k _ _ _ _ _ _ _ _ _ A c _ true _ ?sc HL.out HGd.out).mono ?_); (case sc => exact Kd.C_alloc HC.out _); rintro e w1 ⟨rfl, hb⟩; have HB1 := Lib.hid (Below.of_alloc hb); have HC1 := Lib.hid (Kd.C_below HC.out HB1.out); have BX1 := Lib.hid (blk_below BX0.out hb); clear hb; have hlt1 := blk_lt BX1.out; obtain ⟨⟨c0, c1, c2, c3, c4, c5, c6, c7, c8, c9⟩, z0, z1, z2, z3, z4, z5, z6, z7, z8, z9⟩ := z10 BX1.out) | (go_at_call 11; (with_reducible refine ((node_text k t A c w1 w1.heap.size l HT.out (Kd.V_mk HL.out (Kd.C_F nd_heap HC1.out)) (gl_1_1 HB1.out HG.out)).go (w1.alloc (.cells #[.pointer none, .slice none 0 0] 50)) [] (Lib.fresh_isBuilder _ _ w1) (below_alloc (Below.refl _ _) _) HN.out).mono ?_); rintro e w2 ⟨rfl, hI, hB, -⟩; have HI2 := Lib.hid (show IsW w1.heap.size w1.heap.size (Lib.byteCells l) w2 from hI); have HB2 := Lib.hid hB; clear hI hB) | (go_at_call 12; (with_reducible refine (HLen.out w1.heap.size w1.heap.size w2 HI2.out).mono ?_); rintro e w3 ⟨rfl, rfl⟩) | (go_at_call 13; (with_reducible refine (w_text w1.heap.size w1.heap.size l _ HI2.out H0.out).mono ?_); rintro e w4 ⟨rfl, hb⟩; have HB4 := Lib.hid hb; clear hb))
  · go_ret2
    exact ⟨rfl, below_step HB1.out (HB2.out.trans HB4.out)⟩
  · go_ret2
    exact ⟨rfl, below_step HB1.out HB2.out⟩
end Go.Proofs.YtnomfbmebafolaaGreatDoor.P

namespace Go.Proofs.YtnomfbmebafolaaGreatDoor.P
open Go.RowKit Go.Proofs.YtnomfbmebafolaaGreatDoorW.PrintWords Go.Proofs.YtnomfbmebafolaaGreatDoorW.PrintLast Go.Proofs.YtnomfbmebafolaaGreatDoorW.PrintMore
open M (I64)
set_option linter.unusedVariables false
set_option linter.unusedSimpArgs false
def print_Text.f (k : Nat) (a0_0 a0_1 a0_2 : Int) (a0_3 : ByteArray) (a0_4 a0_5 a0_6 a0_7 : Int) (a0_8 : ByteArray) (l0_9 : List S31) : Option (ByteArray × Int) := textO k ⟨a0_0, ⟨a0_1, a0_2, a0_3⟩, ⟨⟨a0_4, a0_5⟩, ⟨a0_6, a0_7⟩⟩, a0_8, l0_9⟩
theorem text_calls (k : Nat) (t : TN) (A : Option Addr) (c : Nat) (r1 : ByteArray) (r2 : Int) (W : World) (hC : Kd.C k31 W A t.f4.length t.f4) (hc : t.f4.length ≤ c) (hG : G1 W) (h : textO k t = some (r1, r2)) : TextC k t A c W r1 r2 := by
  unfold textO at h
  cases hg : goodO k t with
  | none => rw [hg] at h; cases h
  | some g =>
    rw [hg] at h
    cases g with
    | false =>
      cases h
      exact text_bad k t A c W hC hc hg
    | true =>
      dsimp only at h
      cases ht : textT k t with
      | none => rw [ht] at h; cases h
      | some l =>
        rw [ht] at h
        dsimp only at h
        by_cases h0 : l = []
        · rw [if_pos h0] at h; cases h
        rw [if_neg h0] at h
        by_cases hn : l.length ≤ 100000000
        · rw [if_pos hn] at h
          have hw := text_walk k t A c W l l.length (decide (300 < (l.length : Int))) hC hc hg hG ht h0 hn rfl rfl
          by_cases h3 : 300 < l.length
          · rw [if_pos h3] at h
            cases h
            have e : decide (300 < (l.length : Int)) = true := decide_eq_true (by omega)
            rw [e] at hw
            exact hw
          · rw [if_neg h3] at h
            cases h
            have e : decide (300 < (l.length : Int)) = false := decide_eq_false (by omega)
            rw [e] at hw
            exact hw
        · rw [if_neg hn] at h; cases h
theorem print_Text.calls (k : Nat) (a0_0 a0_1 a0_2 : Int) (a0_3 : ByteArray) (a0_4 a0_5 a0_6 a0_7 : Int) (a0_8 : ByteArray) (A0_9 : Option Addr) (c0_9 : Nat) (l0_9 : List S31) (r1 : ByteArray) (r2 : Int) (w : World) (hr0_9 : Kd.C k31 w A0_9 l0_9.length l0_9) (hc0_9 : l0_9.length ≤ c0_9) (hG : G1 w) (h : print_Text.f k a0_0 a0_1 a0_2 a0_3 a0_4 a0_5 a0_6 a0_7 a0_8 l0_9 = some (r1, r2)) :
    Calls Tryz.prog 5 #[.agg #[.int .i64 a0_0, .int .i64 a0_1, .int .i64 a0_2, .string a0_3, .int .i64 a0_4, .int .i64 a0_5, .int .i64 a0_6, .int .i64 a0_7, .string a0_8, .slice A0_9 l0_9.length c0_9]] w fun e w' => e = .returned (.tuple #[.string r1, .int .i64 r2]) ∧ Below w.heap.size w w' :=
  text_calls k ⟨a0_0, ⟨a0_1, a0_2, a0_3⟩, ⟨⟨a0_4, a0_5⟩, ⟨a0_6, a0_7⟩⟩, a0_8, l0_9⟩ A0_9 c0_9 r1 r2 w hr0_9 hc0_9 hG h
end Go.Proofs.YtnomfbmebafolaaGreatDoor.P

namespace Go.Proofs.YtnomfbmebafolaaGreatDoor.P
open Go.RowKit Go.Proofs.YtnomfbmebafolaaGreatDoorW.PrintWords Go.Proofs.YtnomfbmebafolaaGreatDoorW.PrintLast Go.Proofs.YtnomfbmebafolaaGreatDoorW.PrintMore
open M (fit I64 u64w dig itoaF)
set_option linter.unusedVariables false
set_option linter.unusedSimpArgs false
def nm : Nat → ByteArray
  | 1 => ⟨#[35, 68, 73, 86]⟩ | 2 => ⟨#[35, 79, 86, 69, 82]⟩ | 3 => ⟨#[35, 84, 89, 80, 69]⟩ | 4 => ⟨#[35, 82, 69, 70]⟩
  | 5 => ⟨#[35, 65, 82, 71]⟩ | 6 => ⟨#[35, 76, 79, 79, 80]⟩ | 7 => ⟨#[35, 76, 79, 78, 71]⟩ | 8 => ⟨#[35, 78, 79, 78, 69]⟩
  | _ => ⟨#[]⟩
def nmRow : Array Value := #[.string (nm 0), .string (nm 1), .string (nm 2), .string (nm 3), .string (nm 4), .string (nm 5), .string (nm 6), .string (nm 7), .string (nm 8)]
set_option maxRecDepth 100000 in
theorem value_names.calls (w : World) : Calls Tryz.prog 37 #[] w fun e w' => e = .returned (.agg nmRow) ∧ Below w.heap.size w w' := by
  have hu := Tryz.underlying85
  go_enter Tryz.func37, Tryz.ntmps37
  go_wp2_with fail
  refine bodyPost_ret (v := .agg nmRow) (by simp [results, Tryz.results37, go_sem, hu]; rfl) rfl ⟨rfl, ?_⟩
  exact (Below.refl _ _).alloc (Nat.le_refl _) _
def value_Show.f (a0_0 : Int) (a0_1 : Int) (a0_2 : ByteArray) : Option ByteArray :=
  (value_Good.f a0_0 a0_1 a0_2).bind fun g => if g = true then (if a0_0 = 2 then num_Dec.f a0_1 else if a0_0 = 1 then (if a0_1 = 1 then some ⟨#[84, 82, 85, 69]⟩ else some ⟨#[70, 65, 76, 83, 69]⟩) else if a0_0 = 4 then (if 0 ≤ a0_1 ∧ a0_1 < 9 then some (nm a0_1.toNat) else none) else some a0_2) else some ⟨#[63]⟩
theorem run_names {i : Int} (h0 : 0 ≤ i) (h1 : i < 9) (W : World) : (Instr.index 85 (.agg nmRow) (.int .i64 i)).run Tryz.prog W = .ok (.string (nm i.toNat)) W := by
  have hu := Tryz.underlying85
  have hc : Tryz.prog.cellsOf 9 = 1 := by kernel_rfl
  have h : i = 0 ∨ i = 1 ∨ i = 2 ∨ i = 3 ∨ i = 4 ∨ i = 5 ∨ i = 6 ∨ i = 7 ∨ i = 8 := by omega
  rcases h with rfl | rfl | rfl | rfl | rfl | rfl | rfl | rfl | rfl <;> simp [Instr.index, run_underlying hu, asIntOf, nmRow, hc, go_sem] <;> rfl
set_option maxRecDepth 100000 in
theorem value_Show.calls (a0_0 : Int) (a0_1 : Int) (a0_2 : ByteArray) (r : ByteArray) (w : World) (hG : G1 w) (h : value_Show.f a0_0 a0_1 a0_2 = some r) :
    Calls Tryz.prog 20 #[.agg #[.int .i64 a0_0, .int .i64 a0_1, .string a0_2]] w fun e w' => e = .returned (.string r) ∧ Below w.heap.size w w' := by
  have hu := Tryz.underlying24
  have hu9 := Tryz.underlying85
  have HGL := Lib.hid hG
  clear hG
  obtain ⟨g, hg, h'⟩ := Option.bind_eq_some_iff.1 h
  clear h
  have HGD := Lib.hid hg
  clear hg
  cases g
  · rw [if_neg (by simp)] at h'
    obtain rfl := Option.some.inj h'
    clear h'
    go_enter Tryz.func20, Tryz.ntmps20
    go_wp2_with (go_at_call 19; (refine (value_Good.calls a0_0 a0_1 a0_2 false _ HGD.out).mono ?_); rintro e w1 ⟨rfl, hb1⟩)
    go_ret
    exact ⟨rfl, below_step ((Below.refl _ _).alloc (Nat.le_refl _) _) hb1⟩
  · rw [if_pos rfl] at h'
    by_cases c2 : a0_0 = 2
    · rw [if_pos c2] at h'
      subst c2
      have HD := Lib.hid h'
      clear h'
      go_enter Tryz.func20, Tryz.ntmps20
      go_wp2_with (first | (go_at_call 19; (refine (value_Good.calls 2 a0_1 a0_2 true _ HGD.out).mono ?_); rintro e w1 ⟨rfl, hb1⟩; have d := Lib.hid (blk_below (blk_new w (.cells #[.int .i64 2, .int .i64 a0_1, .string a0_2] 24)) hb1); have z0 : w1.cell? ⟨w.heap.size, 0, none⟩ = some (.int .i64 2) := (blk_cell d.out 0).trans rfl; have z1 : w1.cell? ⟨w.heap.size, 1, none⟩ = some (.int .i64 a0_1) := (blk_cell d.out 1).trans rfl; have z2 : w1.cell? ⟨w.heap.size, 2, none⟩ = some (.string a0_2) := (blk_cell d.out 2).trans rfl) | (go_at_call 36; (refine (num_Dec.calls a0_1 r _ (gl_1_1 (below_step ((Below.refl _ _).alloc (Nat.le_refl _) _) hb1) HGL.out) HD.out).mono ?_); rintro e w2 ⟨rfl, hb2⟩))
      go_ret
      exact ⟨rfl, below_step (below_step ((Below.refl _ _).alloc (Nat.le_refl _) _) hb1) hb2⟩
    · rw [if_neg c2] at h'
      by_cases c1 : a0_0 = 1
      · rw [if_pos c1] at h'
        subst c1
        by_cases c3 : a0_1 = 1
        · rw [if_pos c3] at h'
          subst c3
          obtain rfl := Option.some.inj h'
          clear h' c2
          go_enter Tryz.func20, Tryz.ntmps20
          go_wp2_with (first | (go_at_call 19; (refine (value_Good.calls 1 1 a0_2 true _ HGD.out).mono ?_); rintro e w1 ⟨rfl, hb1⟩; have d := Lib.hid (blk_below (blk_new w (.cells #[.int .i64 1, .int .i64 1, .string a0_2] 24)) hb1); have z0 : w1.cell? ⟨w.heap.size, 0, none⟩ = some (.int .i64 1) := (blk_cell d.out 0).trans rfl; have z1 : w1.cell? ⟨w.heap.size, 1, none⟩ = some (.int .i64 1) := (blk_cell d.out 1).trans rfl; have z2 : w1.cell? ⟨w.heap.size, 2, none⟩ = some (.string a0_2) := (blk_cell d.out 2).trans rfl))
          go_ret
          exact ⟨rfl, below_step ((Below.refl _ _).alloc (Nat.le_refl _) _) hb1⟩
        · rw [if_neg c3] at h'
          have e3 : (a0_1 == 1) = false := by simpa using c3
          obtain rfl := Option.some.inj h'
          clear h' c2 c3
          go_enter Tryz.func20, Tryz.ntmps20
          go_wp2_with (first | (go_at_call 19; (refine (value_Good.calls 1 a0_1 a0_2 true _ HGD.out).mono ?_); rintro e w1 ⟨rfl, hb1⟩; have d := Lib.hid (blk_below (blk_new w (.cells #[.int .i64 1, .int .i64 a0_1, .string a0_2] 24)) hb1); have z0 : w1.cell? ⟨w.heap.size, 0, none⟩ = some (.int .i64 1) := (blk_cell d.out 0).trans rfl; have z1 : w1.cell? ⟨w.heap.size, 1, none⟩ = some (.int .i64 a0_1) := (blk_cell d.out 1).trans rfl; have z2 : w1.cell? ⟨w.heap.size, 2, none⟩ = some (.string a0_2) := (blk_cell d.out 2).trans rfl))
          go_ret
          exact ⟨rfl, below_step ((Below.refl _ _).alloc (Nat.le_refl _) _) hb1⟩
      · rw [if_neg c1] at h'
        by_cases c4 : a0_0 = 4
        · rw [if_pos c4] at h'
          subst c4
          split at h'
          · rename_i h9
            obtain ⟨h90, h91⟩ := h9
            obtain rfl := Option.some.inj h'
            have hix := fun W => run_names h90 h91 W
            clear h' c2 c1
            go_enter Tryz.func20, Tryz.ntmps20
            go_wp2_with (first | (go_at_call 19; (refine (value_Good.calls 4 a0_1 a0_2 true _ HGD.out).mono ?_); rintro e w1 ⟨rfl, hb1⟩; have d := Lib.hid (blk_below (blk_new w (.cells #[.int .i64 4, .int .i64 a0_1, .string a0_2] 24)) hb1); have z0 : w1.cell? ⟨w.heap.size, 0, none⟩ = some (.int .i64 4) := (blk_cell d.out 0).trans rfl; have z1 : w1.cell? ⟨w.heap.size, 1, none⟩ = some (.int .i64 a0_1) := (blk_cell d.out 1).trans rfl; have z2 : w1.cell? ⟨w.heap.size, 2, none⟩ = some (.string a0_2) := (blk_cell d.out 2).trans rfl))
            go_region_with (go_at_call 37; refine (value_names.calls _).mono ?_; rintro e w2 ⟨rfl, hb2⟩; have z3 : w2.cell? ⟨w.heap.size, 1, none⟩ = some (.int .i64 a0_1) := (blk_cell (blk_below (show w1.drew.heap[w.heap.size]? = _ from d.out) hb2) 1).trans rfl)
            all_goals (go_wp2_with fail)
            all_goals go_ret
            all_goals exact ⟨rfl, below_step (Below.drew (below_step ((Below.refl _ _).alloc (Nat.le_refl _) _) hb1)) hb2⟩
          · cases h'
        · rw [if_neg c4] at h'
          have e2 : (a0_0 == 2) = false := by simpa using c2
          have e1 : (a0_0 == 1) = false := by simpa using c1
          have e4 : (a0_0 == 4) = false := by simpa using c4
          obtain rfl := Option.some.inj h'
          clear h' c2 c1 c4
          go_enter Tryz.func20, Tryz.ntmps20
          go_wp2_with (first | (go_at_call 19; (refine (value_Good.calls a0_0 a0_1 a0_2 true _ HGD.out).mono ?_); rintro e w1 ⟨rfl, hb1⟩; have d := Lib.hid (blk_below (blk_new w (.cells #[.int .i64 a0_0, .int .i64 a0_1, .string a0_2] 24)) hb1); have z0 : w1.cell? ⟨w.heap.size, 0, none⟩ = some (.int .i64 a0_0) := (blk_cell d.out 0).trans rfl; have z1 : w1.cell? ⟨w.heap.size, 1, none⟩ = some (.int .i64 a0_1) := (blk_cell d.out 1).trans rfl; have z2 : w1.cell? ⟨w.heap.size, 2, none⟩ = some (.string a0_2) := (blk_cell d.out 2).trans rfl))
          go_ret
          exact ⟨rfl, below_step ((Below.refl _ _).alloc (Nat.le_refl _) _) hb1⟩
end Go.Proofs.YtnomfbmebafolaaGreatDoor.P

namespace Go.Proofs.YtnomfbmebafolaaGreatDoor.P
open Go.RowKit Go.Proofs.YtnomfbmebafolaaGreatDoorW.PrintWords Go.Proofs.YtnomfbmebafolaaGreatDoorW.PrintLast Go.Proofs.YtnomfbmebafolaaGreatDoorW.PrintMore
open M (I64)
attribute [local go_sem high] eqA28
set_option linter.unusedVariables false
set_option linter.unusedSimpArgs false
def sameL (f : TN → TN → Option Bool) : List TN → List TN → Option Bool
  | [], [] => some true
  | a :: l, b :: m => match f a b with | none => none | some false => some false | some true => sameL f l m
  | _, _ => some false
def valO (a b : TN) : Option Bool := value_Same.f a.f1.f0 a.f1.f1 a.f1.f2 b.f1.f0 b.f1.f1 b.f1.f2
def sameF : Nat → TN → TN → Option Bool
  | 0, _, _ => none
  | k + 1, a, b =>
    if a.f0 = b.f0 then
      match valO a b with
      | none => none
      | some false => some false
      | some true => if a.f2.f0.f0 = b.f2.f0.f0 ∧ a.f2.f0.f1 = b.f2.f0.f1 ∧ a.f2.f1.f0 = b.f2.f1.f0 ∧ a.f2.f1.f1 = b.f2.f1.f1 then (if (a.f3.toList == b.f3.toList) = true then (if a.f4.length = b.f4.length then sameL (sameF k) a.f4 b.f4 else some false) else some false) else some false
    else some false
def SameC (k : Nat) : Prop := ∀ (s t : TN) (A B : Option Addr) (c d : Nat) (W : World) (r : Bool), Kd.C k31 W A s.f4.length s.f4 → s.f4.length ≤ c → Kd.C k31 W B t.f4.length t.f4 → t.f4.length ≤ d → sameF k s t = some r →
  Calls Tryz.prog 35 #[ndV s (.slice A s.f4.length c), ndV t (.slice B t.f4.length d)] W fun e W' => e = .returned (.bool r) ∧ Below W.heap.size W W'
theorem SameC.go {k : Nat} (h : SameC k) (s t : TN) (A B : Option Addr) (c d : Nat) (W : World) (r : Bool) (h1 : Kd.C k31 W A s.f4.length s.f4) (h2 : s.f4.length ≤ c) (h3 : Kd.C k31 W B t.f4.length t.f4) (h4 : t.f4.length ≤ d) (h5 : sameF k s t = some r) :
    Calls Tryz.prog 35 #[ndV s (.slice A s.f4.length c), ndV t (.slice B t.f4.length d)] W fun e W' => e = .returned (.bool r) ∧ Below W.heap.size W W' := h s t A B c d W r h1 h2 h3 h4 h5
theorem C_elem {W : World} {A : Option Addr} {l : List TN} (h : Kd.C k31 W A l.length l) (j : Nat) (x : TN) (hx : l[j]? = some x) :
    ∃ ad A9 c9, A = some ad ∧ W.cell? (ad.add (j * 10)) = some (.int .i64 x.f0) ∧ W.cell? ⟨(ad.add (j * 10)).block, (ad.add (j * 10)).off + 1, none⟩ = some (.int .i64 x.f1.f0) ∧ W.cell? ⟨(ad.add (j * 10)).block, (ad.add (j * 10)).off + 2, none⟩ = some (.int .i64 x.f1.f1) ∧ W.cell? ⟨(ad.add (j * 10)).block, (ad.add (j * 10)).off + 3, none⟩ = some (.string x.f1.f2) ∧ W.cell? ⟨(ad.add (j * 10)).block, (ad.add (j * 10)).off + 4, none⟩ = some (.int .i64 x.f2.f0.f0) ∧ W.cell? ⟨(ad.add (j * 10)).block, (ad.add (j * 10)).off + 5, none⟩ = some (.int .i64 x.f2.f0.f1) ∧ W.cell? ⟨(ad.add (j * 10)).block, (ad.add (j * 10)).off + 6, none⟩ = some (.int .i64 x.f2.f1.f0) ∧ W.cell? ⟨(ad.add (j * 10)).block, (ad.add (j * 10)).off + 7, none⟩ = some (.int .i64 x.f2.f1.f1) ∧ W.cell? ⟨(ad.add (j * 10)).block, (ad.add (j * 10)).off + 8, none⟩ = some (.string x.f3) ∧ W.cell? ⟨(ad.add (j * 10)).block, (ad.add (j * 10)).off + 9, none⟩ = some (.slice A9 x.f4.length c9) ∧ x.f4.length ≤ c9 ∧ Kd.C k31 W A9 x.f4.length x.f4 := by
  obtain ⟨hj, rfl⟩ := List.getElem?_eq_some_iff.1 hx
  obtain ⟨ad, A9, c9, rfl, e0, e1, e2, e3, e4, e5, e6, e7, e8, e9, hl9, hi9⟩ := at_T31 h (j : Int) (by omega) (by omega)
  have hr : rd_T31 l (j : Int) = l[j] := by unfold rd_T31; simp [List.getD_eq_getElem?_getD, hj]
  rw [hr, show ((j : Int)).toNat = j by omega] at e0 e1 e2 e3 e4 e5 e6 e7 e8 e9
  rw [hr] at hl9 hi9
  exact ⟨ad, A9, c9, rfl, e0, e1, e2, e3, e4, e5, e6, e7, e8, e9, hl9, hi9⟩
def EqS (k : Nat) (l m : List TN) (W : World) (r : Bool) (i : Value) (wr : World) : Prop :=
  ∃ j : Nat, i = .int .i64 (j : Int) ∧ j ≤ l.length ∧ sameL (sameF k) (l.drop j) (m.drop j) = some r ∧ Below W.heap.size W wr
set_option maxHeartbeats 2000000 in
set_option maxRecDepth 100000 in
theorem equal_calls {k : Nat} (h : SameC k) (l m : List TN) (A B : Option Addr) (c d : Nat) (W : World) (r : Bool) (h1 : Kd.C k31 W A l.length l) (h2 : l.length ≤ c) (h1' : Kd.C k31 W B m.length m) (h2' : m.length ≤ d) (h3 : (if l.length = m.length then sameL (sameF k) l m else some false) = some r) :
    Calls Tryz.prog 57 #[.slice A l.length c, .slice B m.length d, .func (.func 35) #[] #[]] W fun e W' => e = .returned (.bool r) ∧ Below W.heap.size W W' := by
  have HC := Lib.hid h1
  have HD := Lib.hid h1'
  have H := Lib.hid h
  have hlen := h1.2.1
  clear h1 h2 h1' h2' h
  by_cases he : l.length = m.length
  · rw [if_pos he] at h3
    have H3 := Lib.hid h3
    have HE := Lib.hid he
    have hq : ((l.length : Int) != (m.length : Int)) = false := by rw [he]; simp
    clear h3 he
    go_enter Tryz.func57, Tryz.ntmps57
    go_wp2
    go_loopw [17] (EqS k l m W r) (fun i _ => l.length - (intOf i).toNat)
    case atStart => exact ⟨0, rfl, Nat.zero_le _, H3.out, Below.refl _ _⟩
    case round =>
      obtain ⟨j, rfl, hj, hF, hb⟩ := hrel
      have HB := Lib.hid hb
      have HCr := Lib.hid (Kd.C_below HC.out hb)
      have HDr := Lib.hid (Kd.C_below HD.out hb)
      clear H3 hb hq
      by_cases hlt : j < l.length
      · obtain ⟨x, hx⟩ : ∃ x, l[j]? = some x := ⟨_, List.getElem?_eq_getElem hlt⟩
        obtain ⟨y, hy⟩ : ∃ y, m[j]? = some y := ⟨_, List.getElem?_eq_getElem (by have := HE.out; omega)⟩
        have hd1 : l.drop j = x :: l.drop (j + 1) := by
          obtain ⟨g1, g2⟩ := List.getElem?_eq_some_iff.1 hx
          rw [List.drop_eq_getElem_cons g1, g2]
        have hd2 : m.drop j = y :: m.drop (j + 1) := by
          obtain ⟨g1, g2⟩ := List.getElem?_eq_some_iff.1 hy
          rw [List.drop_eq_getElem_cons g1, g2]
        obtain ⟨ad, A9, c9, rfl, e0, e1, e2, e3, e4, e5, e6, e7, e8, e9, hl9, hi9⟩ := C_elem HCr.out j x hx
        obtain ⟨bd, B9, d9, rfl, f0, f1, f2, f3, f4, f5, f6, f7, f8, f9, kl9, ki9⟩ := C_elem HDr.out j y hy
        rw [hd1, hd2, sameL] at hF
        have hq1 : ((0 : Int) ≤ (j : Int)) = True := eq_true (by omega)
        have hq2 : ((j : Int) < (l.length : Int)) = True := eq_true (by omega)
        have hq4 : ((j : Int) < (m.length : Int)) = True := eq_true (by have := HE.out; omega)
        have hq3 : decide ((j : Int) < (l.length : Int)) = true := decide_eq_true (by omega)
        have t1 : (ad.add (j * 10)).block < wr.heap.size := World.block_lt_of_cell? _ _ e0
        have t2 : (bd.add (j * 10)).block < wr.heap.size := World.block_lt_of_cell? _ _ f0
        have HI9 := Lib.hid hi9
        have HL9 := Lib.hid hl9
        have KI9 := Lib.hid ki9
        have KL9 := Lib.hid kl9
        cases hf : sameF k x y with
        | none => rw [hf] at hF; cases hF
        | some r1 =>
          rw [hf] at hF
          have HF := Lib.hid hf
          have HHF := Lib.hid hF
          clear hf hF hx hy hd1 hd2 hl9 hi9 kl9 ki9
          cases r1 with
          | false =>
            go_wp2_with (first | (go_at_call 35; (with_reducible refine (H.out.go x y A9 B9 c9 d9 _ false ?s1 HL9.out ?s2 KL9.out HF.out).mono ?_); (case s1 => exact Kd.C_alloc (Kd.C_alloc HI9.out _) _); (case s2 => exact Kd.C_alloc (Kd.C_alloc KI9.out _) _); rintro e w2 ⟨rfl, hb2⟩; have HB2 := Lib.hid (Below.on HB.out (Below.of_alloc (Below.of_alloc hb2))); clear hb2))
            have hh := HHF.out
            simp only [Option.some.injEq] at hh
            subst hh
            go_ret
            exact ⟨rfl, HB2.out⟩
          | true =>
            go_wp2_with (first | (go_at_call 35; (with_reducible refine (H.out.go x y A9 B9 c9 d9 _ true ?s1 HL9.out ?s2 KL9.out HF.out).mono ?_); (case s1 => exact Kd.C_alloc (Kd.C_alloc HI9.out _) _); (case s2 => exact Kd.C_alloc (Kd.C_alloc KI9.out _) _); rintro e w2 ⟨rfl, hb2⟩; have HB2 := Lib.hid (Below.on HB.out (Below.of_alloc (Below.of_alloc hb2))); clear hb2))
            go_roundw
            case rel => exact ⟨j + 1, by go_num, by omega, HHF.out, HB2.out⟩
            case measure => simp [intOf]; omega
      · have hjl : j = l.length := by omega
        subst hjl
        rw [List.drop_length, HE.out, List.drop_length, sameL] at hF
        have hq3 : decide ((l.length : Int) < (l.length : Int)) = false := decide_eq_false (by omega)
        have HHF := Lib.hid hF
        clear hF
        go_wp2
        have hh := HHF.out
        simp only [Option.some.injEq] at hh
        subst hh
        go_ret
        exact ⟨rfl, HB.out⟩
  · rw [if_neg he] at h3
    obtain rfl := Option.some.inj h3
    have hq : ((l.length : Int) != (m.length : Int)) = true := bne_iff_ne.2 (by omega)
    clear h3
    go_enter Tryz.func57, Tryz.ntmps57
    go_wp2
    go_ret
    exact ⟨rfl, Below.refl _ _⟩
set_option maxHeartbeats 2000000 in
set_option maxRecDepth 100000 in
theorem same_kind (s t : TN) (A B : Option Addr) (c d : Nat) (W : World) (h : s.f0 ≠ t.f0) :
    Calls Tryz.prog 35 #[ndV s (.slice A s.f4.length c), ndV t (.slice B t.f4.length d)] W fun e W' => e = .returned (.bool false) ∧ Below W.heap.size W W' := by
  have hq : ((s.f0 : Int) == t.f0) = false := beq_eq_false_iff_ne.2 h
  clear h
  go_enter Tryz.func35, Tryz.ntmps35
  go_wp2
  go_ret
  exact ⟨rfl, below_alloc (below_alloc (Below.refl _ _) _) _⟩
set_option maxHeartbeats 2000000 in
set_option maxRecDepth 100000 in
theorem same_val (s t : TN) (A B : Option Addr) (c d : Nat) (W : World) (h : s.f0 = t.f0) (hv : valO s t = some false) (h1 : Kd.C k31 W A s.f4.length s.f4) (h2 : Kd.C k31 W B t.f4.length t.f4) :
    Calls Tryz.prog 35 #[ndV s (.slice A s.f4.length c), ndV t (.slice B t.f4.length d)] W fun e W' => e = .returned (.bool false) ∧ Below W.heap.size W W' := by
  have hq : ((s.f0 : Int) == t.f0) = true := beq_iff_eq.2 h
  unfold valO at hv
  have HV := Lib.hid hv
  have HA := Lib.hid h1
  have HT := Lib.hid h2
  clear h hv h1 h2
  go_enter Tryz.func35, Tryz.ntmps35
  go_wp2_with (first | (go_at_call 17; (with_reducible refine (value_Same.calls s.f1.f0 s.f1.f1 s.f1.f2 t.f1.f0 t.f1.f1 t.f1.f2 false _ HV.out).mono ?_); rintro e w2 ⟨rfl, hb⟩; have hb_ := Below.of_alloc (Below.of_alloc hb); have HB := Lib.hid hb_; have e1 := (z10 (blk_below (blk_at' (W.alloc (ndO s (.slice A s.f4.length c))) (ndO t (.slice B t.f4.length d)) (W.heap.size + 1) (by simp)) hb)).1; have e2 := (z10 (blk_below (blk_alloc (blk_new W (ndO s (.slice A s.f4.length c))) (ndO t (.slice B t.f4.length d))) hb)).1; have HA2 := Lib.hid (Kd.C_below HA.out hb_); have HT2 := Lib.hid (Kd.C_below HT.out hb_); clear hb hb_; obtain ⟨p0, p1, p2, p3, p4, p5, p6, p7, p8, p9⟩ := e1; obtain ⟨q0, q1, q2, q3, q4, q5, q6, q7, q8, q9⟩ := e2))
  go_ret
  exact ⟨rfl, HB.out⟩
set_option maxHeartbeats 2000000 in
set_option maxRecDepth 100000 in
theorem same_rect (s t : TN) (A B : Option Addr) (c d : Nat) (W : World) (h : s.f0 = t.f0) (hv : valO s t = some true) (h1 : Kd.C k31 W A s.f4.length s.f4) (h2 : Kd.C k31 W B t.f4.length t.f4) (hr : ((s.f2.f0.f0 == t.f2.f0.f0 && (s.f2.f0.f1 == t.f2.f0.f1)) && ((s.f2.f1.f0 == t.f2.f1.f0 && (s.f2.f1.f1 == t.f2.f1.f1)))) = false) :
    Calls Tryz.prog 35 #[ndV s (.slice A s.f4.length c), ndV t (.slice B t.f4.length d)] W fun e W' => e = .returned (.bool false) ∧ Below W.heap.size W W' := by
  have hq : ((s.f0 : Int) == t.f0) = true := beq_iff_eq.2 h
  unfold valO at hv
  have HV := Lib.hid hv
  have HA := Lib.hid h1
  have HT := Lib.hid h2
  clear h hv h1 h2
  go_enter Tryz.func35, Tryz.ntmps35
  go_wp2_with (first | (go_at_call 17; (with_reducible refine (value_Same.calls s.f1.f0 s.f1.f1 s.f1.f2 t.f1.f0 t.f1.f1 t.f1.f2 true _ HV.out).mono ?_); rintro e w2 ⟨rfl, hb⟩; have hb_ := Below.of_alloc (Below.of_alloc hb); have HB := Lib.hid hb_; have e1 := (z10 (blk_below (blk_at' (W.alloc (ndO s (.slice A s.f4.length c))) (ndO t (.slice B t.f4.length d)) (W.heap.size + 1) (by simp)) hb)).1; have e2 := (z10 (blk_below (blk_alloc (blk_new W (ndO s (.slice A s.f4.length c))) (ndO t (.slice B t.f4.length d))) hb)).1; have HA2 := Lib.hid (Kd.C_below HA.out hb_); have HT2 := Lib.hid (Kd.C_below HT.out hb_); clear hb hb_; obtain ⟨p0, p1, p2, p3, p4, p5, p6, p7, p8, p9⟩ := e1; obtain ⟨q0, q1, q2, q3, q4, q5, q6, q7, q8, q9⟩ := e2))
  go_ret
  exact ⟨by first | rfl | (simp [*]; done), HB.out⟩
set_option maxHeartbeats 2000000 in
set_option maxRecDepth 100000 in
theorem same_op (s t : TN) (A B : Option Addr) (c d : Nat) (W : World) (h : s.f0 = t.f0) (hv : valO s t = some true) (h1 : Kd.C k31 W A s.f4.length s.f4) (h2 : Kd.C k31 W B t.f4.length t.f4) (hr : ((s.f2.f0.f0 == t.f2.f0.f0 && (s.f2.f0.f1 == t.f2.f0.f1)) && ((s.f2.f1.f0 == t.f2.f1.f0 && (s.f2.f1.f1 == t.f2.f1.f1)))) = true) (ho : (s.f3.toList == t.f3.toList) = false) :
    Calls Tryz.prog 35 #[ndV s (.slice A s.f4.length c), ndV t (.slice B t.f4.length d)] W fun e W' => e = .returned (.bool false) ∧ Below W.heap.size W W' := by
  have hq : ((s.f0 : Int) == t.f0) = true := beq_iff_eq.2 h
  unfold valO at hv
  have HV := Lib.hid hv
  have HA := Lib.hid h1
  have HT := Lib.hid h2
  clear h hv h1 h2
  go_enter Tryz.func35, Tryz.ntmps35
  go_wp2_with (first | (go_at_call 17; (with_reducible refine (value_Same.calls s.f1.f0 s.f1.f1 s.f1.f2 t.f1.f0 t.f1.f1 t.f1.f2 true _ HV.out).mono ?_); rintro e w2 ⟨rfl, hb⟩; have hb_ := Below.of_alloc (Below.of_alloc hb); have HB := Lib.hid hb_; have e1 := (z10 (blk_below (blk_at' (W.alloc (ndO s (.slice A s.f4.length c))) (ndO t (.slice B t.f4.length d)) (W.heap.size + 1) (by simp)) hb)).1; have e2 := (z10 (blk_below (blk_alloc (blk_new W (ndO s (.slice A s.f4.length c))) (ndO t (.slice B t.f4.length d))) hb)).1; have HA2 := Lib.hid (Kd.C_below HA.out hb_); have HT2 := Lib.hid (Kd.C_below HT.out hb_); clear hb hb_; obtain ⟨p0, p1, p2, p3, p4, p5, p6, p7, p8, p9⟩ := e1; obtain ⟨q0, q1, q2, q3, q4, q5, q6, q7, q8, q9⟩ := e2))
  go_ret
  exact ⟨by first | rfl | (simp [*]; done), HB.out⟩
set_option maxHeartbeats 2000000 in
set_option maxRecDepth 100000 in
theorem same_args (s t : TN) (A B : Option Addr) (c d : Nat) (W : World) (h : s.f0 = t.f0) (hv : valO s t = some true) (h1 : Kd.C k31 W A s.f4.length s.f4) (h2 : Kd.C k31 W B t.f4.length t.f4) {k : Nat} (hk : SameC k) (r : Bool) (g1 : s.f4.length ≤ c) (g2 : t.f4.length ≤ d) (hr : ((s.f2.f0.f0 == t.f2.f0.f0 && (s.f2.f0.f1 == t.f2.f0.f1)) && ((s.f2.f1.f0 == t.f2.f1.f0 && (s.f2.f1.f1 == t.f2.f1.f1)))) = true) (ho : (s.f3.toList == t.f3.toList) = true) (h3 : (if s.f4.length = t.f4.length then sameL (sameF k) s.f4 t.f4 else some false) = some r) :
    Calls Tryz.prog 35 #[ndV s (.slice A s.f4.length c), ndV t (.slice B t.f4.length d)] W fun e W' => e = .returned (.bool r) ∧ Below W.heap.size W W' := by
  have hq : ((s.f0 : Int) == t.f0) = true := beq_iff_eq.2 h
  unfold valO at hv
  have HV := Lib.hid hv
  have HA := Lib.hid h1
  have HT := Lib.hid h2
  clear h hv h1 h2
  have HK := Lib.hid hk
  have HR := Lib.hid h3
  have HC1 := Lib.hid g1
  have HD1 := Lib.hid g2
  clear hk h3 g1 g2
  go_enter Tryz.func35, Tryz.ntmps35
  go_wp2_with (first | (go_at_call 17; (with_reducible refine (value_Same.calls s.f1.f0 s.f1.f1 s.f1.f2 t.f1.f0 t.f1.f1 t.f1.f2 true _ HV.out).mono ?_); rintro e w2 ⟨rfl, hb⟩; have hb_ := Below.of_alloc (Below.of_alloc hb); have HB := Lib.hid hb_; have e1 := (z10 (blk_below (blk_at' (W.alloc (ndO s (.slice A s.f4.length c))) (ndO t (.slice B t.f4.length d)) (W.heap.size + 1) (by simp)) hb)).1; have e2 := (z10 (blk_below (blk_alloc (blk_new W (ndO s (.slice A s.f4.length c))) (ndO t (.slice B t.f4.length d))) hb)).1; have HA2 := Lib.hid (Kd.C_below HA.out hb_); have HT2 := Lib.hid (Kd.C_below HT.out hb_); clear hb hb_; obtain ⟨p0, p1, p2, p3, p4, p5, p6, p7, p8, p9⟩ := e1; obtain ⟨q0, q1, q2, q3, q4, q5, q6, q7, q8, q9⟩ := e2) | (go_at_call 57; (with_reducible refine (equal_calls HK.out s.f4 t.f4 A B c d _ r HA2.out HC1.out HT2.out HD1.out HR.out).mono ?_); rintro e w3 ⟨rfl, hb⟩; have HB3 := Lib.hid (Below.on HB.out hb); clear hb))
  go_ret
  exact ⟨by first | rfl | (simp [*]; done), HB3.out⟩
theorem same_all : ∀ k, SameC k := by
  intro k
  induction k with
  | zero => intro s t A B c d W r h1 h2 h3 h4 h5; cases h5
  | succ k ih =>
    intro s t A B c d W r h1 h2 h3 h4 h5
    unfold sameF at h5
    by_cases e0 : s.f0 = t.f0
    · rw [if_pos e0] at h5
      cases ev : valO s t with
      | none => rw [ev] at h5; cases h5
      | some b =>
        rw [ev] at h5
        cases b with
        | false => cases h5; exact same_val s t A B c d W e0 ev h1 h3
        | true =>
          dsimp only at h5
          by_cases er : s.f2.f0.f0 = t.f2.f0.f0 ∧ s.f2.f0.f1 = t.f2.f0.f1 ∧ s.f2.f1.f0 = t.f2.f1.f0 ∧ s.f2.f1.f1 = t.f2.f1.f1
          · rw [if_pos er] at h5
            have hr : ((s.f2.f0.f0 == t.f2.f0.f0 && (s.f2.f0.f1 == t.f2.f0.f1)) && ((s.f2.f1.f0 == t.f2.f1.f0 && (s.f2.f1.f1 == t.f2.f1.f1)))) = true := by simp [er.1, er.2.1, er.2.2.1, er.2.2.2]
            by_cases eo : (s.f3.toList == t.f3.toList) = true
            · rw [if_pos eo] at h5
              exact same_args s t A B c d W e0 ev h1 h3 ih r h2 h4 hr eo h5
            · rw [if_neg eo] at h5
              cases h5
              exact same_op s t A B c d W e0 ev h1 h3 hr (by simpa using eo)
          · rw [if_neg er] at h5
            cases h5
            refine same_rect s t A B c d W e0 ev h1 h3 ?_
            rw [Bool.eq_false_iff]
            intro hh
            simp only [Bool.and_eq_true, beq_iff_eq] at hh
            exact er ⟨hh.1.1, hh.1.2, hh.2.1, hh.2.2⟩
    · rw [if_neg e0] at h5
      cases h5
      exact same_kind s t A B c d W e0
end Go.Proofs.YtnomfbmebafolaaGreatDoor.P

namespace Go.Proofs.YtnomfbmebafolaaGreatDoor.P
open Go.RowKit Go.Proofs.YtnomfbmebafolaaGreatDoorW.PrintWords Go.Proofs.YtnomfbmebafolaaGreatDoorW.PrintLast Go.Proofs.YtnomfbmebafolaaGreatDoorW.PrintMore
set_option linter.unusedVariables false
set_option linter.unusedSimpArgs false
def tree_same.f (k : Nat) (a0_0 a0_1 a0_2 : Int) (a0_3 : ByteArray) (a0_4 a0_5 a0_6 a0_7 : Int) (a0_8 : ByteArray) (l0_9 : List S31) (a1_0 a1_1 a1_2 : Int) (a1_3 : ByteArray) (a1_4 a1_5 a1_6 a1_7 : Int) (a1_8 : ByteArray) (l1_9 : List S31) : Option Bool :=
  sameF k ⟨a0_0, ⟨a0_1, a0_2, a0_3⟩, ⟨⟨a0_4, a0_5⟩, ⟨a0_6, a0_7⟩⟩, a0_8, l0_9⟩ ⟨a1_0, ⟨a1_1, a1_2, a1_3⟩, ⟨⟨a1_4, a1_5⟩, ⟨a1_6, a1_7⟩⟩, a1_8, l1_9⟩
theorem tree_same.calls (k : Nat) (a0_0 a0_1 a0_2 : Int) (a0_3 : ByteArray) (a0_4 a0_5 a0_6 a0_7 : Int) (a0_8 : ByteArray) (A0_9 : Option Addr) (c0_9 : Nat) (l0_9 : List S31) (a1_0 a1_1 a1_2 : Int) (a1_3 : ByteArray) (a1_4 a1_5 a1_6 a1_7 : Int) (a1_8 : ByteArray) (A1_9 : Option Addr) (c1_9 : Nat) (l1_9 : List S31) (r : Bool) (w : World)
    (hr0_9 : Kd.C k31 w A0_9 l0_9.length l0_9) (hc0_9 : l0_9.length ≤ c0_9) (hr1_9 : Kd.C k31 w A1_9 l1_9.length l1_9) (hc1_9 : l1_9.length ≤ c1_9) (h : tree_same.f k a0_0 a0_1 a0_2 a0_3 a0_4 a0_5 a0_6 a0_7 a0_8 l0_9 a1_0 a1_1 a1_2 a1_3 a1_4 a1_5 a1_6 a1_7 a1_8 l1_9 = some r) :
    Calls Tryz.prog 35 #[.agg #[.int .i64 a0_0, .int .i64 a0_1, .int .i64 a0_2, .string a0_3, .int .i64 a0_4, .int .i64 a0_5, .int .i64 a0_6, .int .i64 a0_7, .string a0_8, .slice A0_9 l0_9.length c0_9], .agg #[.int .i64 a1_0, .int .i64 a1_1, .int .i64 a1_2, .string a1_3, .int .i64 a1_4, .int .i64 a1_5, .int .i64 a1_6, .int .i64 a1_7, .string a1_8, .slice A1_9 l1_9.length c1_9]] w fun e w' => e = .returned (.bool r) ∧ Below w.heap.size w w' :=
  same_all k ⟨a0_0, ⟨a0_1, a0_2, a0_3⟩, ⟨⟨a0_4, a0_5⟩, ⟨a0_6, a0_7⟩⟩, a0_8, l0_9⟩ ⟨a1_0, ⟨a1_1, a1_2, a1_3⟩, ⟨⟨a1_4, a1_5⟩, ⟨a1_6, a1_7⟩⟩, a1_8, l1_9⟩ A0_9 A1_9 c0_9 c1_9 w r hr0_9 hc0_9 hr1_9 hc1_9 h
theorem sameL_mono {f g : TN → TN → Option Bool} (h : ∀ a b r, f a b = some r → g a b = some r) : ∀ l m r, sameL f l m = some r → sameL g l m = some r := by
  intro l
  induction l with
  | nil => intro m r hr; cases m with | nil => exact hr | cons b m => exact hr
  | cons a l ih =>
    intro m r hr
    cases m with
    | nil => exact hr
    | cons b m =>
      rw [sameL] at hr ⊢
      cases e : f a b with
      | none => rw [e] at hr; cases hr
      | some x =>
        rw [h a b x e]
        rw [e] at hr
        cases x with
        | false => exact hr
        | true => exact ih m r hr
theorem sameF_mono : ∀ k a b r, sameF k a b = some r → sameF (k + 1) a b = some r := by
  intro k
  induction k with
  | zero => intro a b r h; cases h
  | succ k ih =>
    intro a b r h
    rw [sameF] at h ⊢
    by_cases e0 : a.f0 = b.f0
    · rw [if_pos e0] at h ⊢
      cases ev : valO a b with
      | none => rw [ev] at h; cases h
      | some x =>
        rw [ev] at h
        cases x with
        | false => exact h
        | true =>
          dsimp only at h ⊢
          by_cases er : a.f2.f0.f0 = b.f2.f0.f0 ∧ a.f2.f0.f1 = b.f2.f0.f1 ∧ a.f2.f1.f0 = b.f2.f1.f0 ∧ a.f2.f1.f1 = b.f2.f1.f1
          · rw [if_pos er] at h ⊢
            by_cases eo : (a.f3.toList == b.f3.toList) = true
            · rw [if_pos eo] at h ⊢
              by_cases el : a.f4.length = b.f4.length
              · rw [if_pos el] at h ⊢; exact sameL_mono ih _ _ _ h
              · rw [if_neg el] at h ⊢; exact h
            · rw [if_neg eo] at h ⊢; exact h
          · rw [if_neg er] at h ⊢; exact h
    · rw [if_neg e0] at h ⊢; exact h
theorem tree_same.mono : ∀ a0 a1 a2 a3 a4 a5 a6 a7 a8 a9 b0 b1 b2 b3 b4 b5 b6 b7 b8 b9 k, LeO (tree_same.f k a0 a1 a2 a3 a4 a5 a6 a7 a8 a9 b0 b1 b2 b3 b4 b5 b6 b7 b8 b9) (tree_same.f (k + 1) a0 a1 a2 a3 a4 a5 a6 a7 a8 a9 b0 b1 b2 b3 b4 b5 b6 b7 b8 b9) := fun _ _ _ _ _ _ _ _ _ _ _ _ _ _ _ _ _ _ _ _ k r h => sameF_mono k _ _ r h
end Go.Proofs.YtnomfbmebafolaaGreatDoor.P

namespace Go.Proofs.YtnomfbmebafolaaGreatDoor.P
open Go.RowKit Go.Proofs.YtnomfbmebafolaaGreatDoorW.PrintWords Go.Proofs.YtnomfbmebafolaaGreatDoorW.PrintLast Go.Proofs.YtnomfbmebafolaaGreatDoorW.PrintMore
attribute [local go_sem] max2_int min2_int max_two min_two max_three min_three max_four min_four   -- for this text's walks alone
set_option linter.unusedVariables false
set_option linter.unusedSimpArgs false
def tree_Same.f (k : Nat) (a0_0 : Int) (a0_1 : Int) (a0_2 : Int) (a0_3 : ByteArray) (a0_4 : Int) (a0_5 : Int) (a0_6 : Int) (a0_7 : Int) (a0_8 : ByteArray) (l0_9 : List (S31)) (a1_0 : Int) (a1_1 : Int) (a1_2 : Int) (a1_3 : ByteArray) (a1_4 : Int) (a1_5 : Int) (a1_6 : Int) (a1_7 : Int) (a1_8 : ByteArray) (l1_9 : List (S31)) : Option (Bool) := (tree_small.f a0_0 a0_1 a0_2 a0_3 a0_4 a0_5 a0_6 a0_7 a0_8 l0_9).bind fun t182 => (if t182 = true then ((tree_small.f a1_0 a1_1 a1_2 a1_3 a1_4 a1_5 a1_6 a1_7 a1_8 l1_9).bind fun t183 => (if t183 = true then ((tree_same.f k a0_0 a0_1 a0_2 a0_3 a0_4 a0_5 a0_6 a0_7 a0_8 l0_9 a1_0 a1_1 a1_2 a1_3 a1_4 a1_5 a1_6 a1_7 a1_8 l1_9).bind fun t184 => (some t184)) else (some false))) else (some false))
theorem tree_Same.mono : ∀ a0 a1 a2 a3 a4 a5 a6 a7 a8 a9 a10 a11 a12 a13 a14 a15 a16 a17 a18 a19 k, LeO (tree_Same.f k a0 a1 a2 a3 a4 a5 a6 a7 a8 a9 a10 a11 a12 a13 a14 a15 a16 a17 a18 a19) (tree_Same.f (k + 1) a0 a1 a2 a3 a4 a5 a6 a7 a8 a9 a10 a11 a12 a13 a14 a15 a16 a17 a18 a19) := by
  intro a0 a1 a2 a3 a4 a5 a6 a7 a8 a9 a10 a11 a12 a13 a14 a15 a16 a17 a18 a19 k
  unfold tree_Same.f
  repeat' first
      | (with_reducible exact tree_same.mono _ _ _ _ _ _ _ _ _ _ _ _ _ _ _ _ _ _ _ _ _)
      | (with_reducible exact LeO.refl _)
      | (with_reducible exact LeO.none _)
      | (with_reducible refine LeO.ite ?_ ?_)
      | (with_reducible refine LeO.bind ?_ (fun _ => ?_))
      | exact tree_same.mono _ _ _ _ _ _ _ _ _ _ _ _ _ _ _ _ _ _ _ _ _
      | exact LeO.none _
      | refine LeO.ite ?_ ?_
      | refine LeO.bind ?_ (fun _ => ?_)
set_option maxHeartbeats 8000000 in
set_option maxRecDepth 100000 in
theorem tree_Same.calls (k : Nat) (a0_0 : Int) (a0_1 : Int) (a0_2 : Int) (a0_3 : ByteArray) (a0_4 : Int) (a0_5 : Int) (a0_6 : Int) (a0_7 : Int) (a0_8 : ByteArray) (A0_9 : Option Addr) (c0_9 : Nat) (l0_9 : List (S31)) (a1_0 : Int) (a1_1 : Int) (a1_2 : Int) (a1_3 : ByteArray) (a1_4 : Int) (a1_5 : Int) (a1_6 : Int) (a1_7 : Int) (a1_8 : ByteArray) (A1_9 : Option Addr) (c1_9 : Nat) (l1_9 : List (S31)) (r : Bool) (w : World) (hr0_9 : Kd.C k31 w A0_9 l0_9.length l0_9) (hc0_9 : l0_9.length ≤ c0_9) (hr1_9 : Kd.C k31 w A1_9 l1_9.length l1_9) (hc1_9 : l1_9.length ≤ c1_9) (h : tree_Same.f k a0_0 a0_1 a0_2 a0_3 a0_4 a0_5 a0_6 a0_7 a0_8 l0_9 a1_0 a1_1 a1_2 a1_3 a1_4 a1_5 a1_6 a1_7 a1_8 l1_9 = some r) :
    Calls Tryz.prog 18 #[.agg #[.int .i64 a0_0, .int .i64 a0_1, .int .i64 a0_2, .string a0_3, .int .i64 a0_4, .int .i64 a0_5, .int .i64 a0_6, .int .i64 a0_7, .string a0_8, .slice A0_9 l0_9.length c0_9], .agg #[.int .i64 a1_0, .int .i64 a1_1, .int .i64 a1_2, .string a1_3, .int .i64 a1_4, .int .i64 a1_5, .int .i64 a1_6, .int .i64 a1_7, .string a1_8, .slice A1_9 l1_9.length c1_9]] w fun e w' => e = .returned (.bool r) ∧ Below w.heap.size w w' := by
  have hu31 := Tryz.underlying31
  have HR0_9 := Aside0.mk hr0_9
  have HC0_9 := Aside0.mk hc0_9
  clear hr0_9 hc0_9
  have HR1_9 := Aside0.mk hr1_9
  have HC1_9 := Aside0.mk hc1_9
  clear hr1_9 hc1_9
  have HB := Aside0.mk (Below.refl w.heap.size w)
  have H : ((tree_small.f a0_0 a0_1 a0_2 a0_3 a0_4 a0_5 a0_6 a0_7 a0_8 l0_9).bind fun t182 => (if t182 = true then ((tree_small.f a1_0 a1_1 a1_2 a1_3 a1_4 a1_5 a1_6 a1_7 a1_8 l1_9).bind fun t183 => (if t183 = true then ((tree_same.f k a0_0 a0_1 a0_2 a0_3 a0_4 a0_5 a0_6 a0_7 a0_8 l0_9 a1_0 a1_1 a1_2 a1_3 a1_4 a1_5 a1_6 a1_7 a1_8 l1_9).bind fun t184 => (some t184)) else (some false))) else (some false))) = some r := h
  clear h
  replace H := Option.bind_eq_some_iff.mp H
  obtain ⟨t182, A30, H⟩ := H
  replace H : (if t182 = true then ((tree_small.f a1_0 a1_1 a1_2 a1_3 a1_4 a1_5 a1_6 a1_7 a1_8 l1_9).bind fun t183 => (if t183 = true then ((tree_same.f k a0_0 a0_1 a0_2 a0_3 a0_4 a0_5 a0_6 a0_7 a0_8 l0_9 a1_0 a1_1 a1_2 a1_3 a1_4 a1_5 a1_6 a1_7 a1_8 l1_9).bind fun t184 => (some t184)) else (some false))) else (some false)) = some r := H
  have A3 := Aside0.mk A30
  clear A30
  by_cases c4 : t182 = true
  · subst c4
    have H1 : ((tree_small.f a1_0 a1_1 a1_2 a1_3 a1_4 a1_5 a1_6 a1_7 a1_8 l1_9).bind fun t183 => (if t183 = true then ((tree_same.f k a0_0 a0_1 a0_2 a0_3 a0_4 a0_5 a0_6 a0_7 a0_8 l0_9 a1_0 a1_1 a1_2 a1_3 a1_4 a1_5 a1_6 a1_7 a1_8 l1_9).bind fun t184 => (some t184)) else (some false))) = some r := by rw [if_pos rfl] at H; exact H
    clear H
    have H := H1
    clear H1
    replace H := Option.bind_eq_some_iff.mp H
    obtain ⟨t183, A50, H⟩ := H
    replace H : (if t183 = true then ((tree_same.f k a0_0 a0_1 a0_2 a0_3 a0_4 a0_5 a0_6 a0_7 a0_8 l0_9 a1_0 a1_1 a1_2 a1_3 a1_4 a1_5 a1_6 a1_7 a1_8 l1_9).bind fun t184 => (some t184)) else (some false)) = some r := H
    have A5 := Aside0.mk A50
    clear A50
    by_cases c6 : t183 = true
    · subst c6
      have H1 : ((tree_same.f k a0_0 a0_1 a0_2 a0_3 a0_4 a0_5 a0_6 a0_7 a0_8 l0_9 a1_0 a1_1 a1_2 a1_3 a1_4 a1_5 a1_6 a1_7 a1_8 l1_9).bind fun t184 => (some t184)) = some r := by rw [if_pos rfl] at H; exact H
      clear H
      have H := H1
      clear H1
      replace H := Option.bind_eq_some_iff.mp H
      obtain ⟨t184, A70, H⟩ := H
      replace H : (some t184) = some r := H
      have A7 := Aside0.mk A70
      clear A70
      obtain rfl := Option.some.inj H
      go_enter Tryz.func18, Tryz.ntmps18
      go_wp2_with (first | ((with_reducible refine gate_dst (N := 2) rfl ?_); refine box_event ?hg (N := 2) ?hd (cs := #[.int .i64 a0_0, .int .i64 a0_1, .int .i64 a0_2, .string a0_3, .int .i64 a0_4, .int .i64 a0_5, .int .i64 a0_6, .int .i64 a0_7, .string a0_8, .slice A0_9 l0_9.length c0_9]) (t := 31) ?hr ?_; (case hd => rfl); (case hg => rfl); (case hr => first | (go_simp; done) | (go_simp; rfl)); intro gb180 hg w8 hbox hb; have n0_ := Aside0.mk (below_step zz1 hb); have n1_ := Aside0.mk (hbox); have n2_ := Aside0.mk ((by rw [hg]; exact (below_size zz1) : w.heap.size ≤ gb180)); have n3_ := n2_; clear HB; have HB := n0_; have BK180 := n1_; have GW180 := n2_; have GE180 := n3_; clear n0_ n1_ n2_ n3_; clear hb hbox hg) | ((with_reducible refine gate_dst (N := 3) rfl ?_); refine box_event ?hg (N := 3) ?hd (cs := #[.int .i64 a1_0, .int .i64 a1_1, .int .i64 a1_2, .string a1_3, .int .i64 a1_4, .int .i64 a1_5, .int .i64 a1_6, .int .i64 a1_7, .string a1_8, .slice A1_9 l1_9.length c1_9]) (t := 31) ?hr ?_; (case hd => rfl); (case hg => rfl); (case hr => first | (go_simp; done) | (go_simp; rfl)); intro gb181 hg w9 hbox hb; have n0_ := Aside0.mk (blk_below (g := gb180) (o := .cells #[.int .i64 a0_0, .int .i64 a0_1, .int .i64 a0_2, .string a0_3, .int .i64 a0_4, .int .i64 a0_5, .int .i64 a0_6, .int .i64 a0_7, .string a0_8, .slice A0_9 l0_9.length c0_9] 31 (0, 0)) (zB BK180.out) hb); have n1_ := Aside0.mk (below_step zz15 hb); have n2_ := Aside0.mk (hbox); have n3_ := Aside0.mk ((by rw [hg]; exact (below_size zz15) : w.heap.size ≤ gb181)); have n4_ := n3_; have n5_ := Aside0.mk ((by rw [hg]; exact Nat.ne_of_lt (blk_lt (g := gb180) (o := .cells #[.int .i64 a0_0, .int .i64 a0_1, .int .i64 a0_2, .string a0_3, .int .i64 a0_4, .int .i64 a0_5, .int .i64 a0_6, .int .i64 a0_7, .string a0_8, .slice A0_9 l0_9.length c0_9] 31 (0, 0)) (zB BK180.out)) : gb180 ≠ gb181)); have n6_ := Aside0.mk ((by rw [hg]; exact Nat.ne_of_gt (blk_lt (g := gb180) (o := .cells #[.int .i64 a0_0, .int .i64 a0_1, .int .i64 a0_2, .string a0_3, .int .i64 a0_4, .int .i64 a0_5, .int .i64 a0_6, .int .i64 a0_7, .string a0_8, .slice A0_9 l0_9.length c0_9] 31 (0, 0)) (zB BK180.out)) : gb181 ≠ gb180)); clear BK180; clear HB; have BK180 := n0_; have HB := n1_; have BK181 := n2_; have GW181 := n3_; have GE181 := n4_; have NB180_181 := n5_; have NB181_180 := n6_; clear n0_ n1_ n2_ n3_ n4_ n5_ n6_; clear hb hbox hg; have hnb10 := NB180_181.out; have hnc10 := NB181_180.out; obtain ⟨_, _, _, _, _, _, _, _, _, _, _, _, _, _, _, _, _, _, _, _⟩ := zC10 BK180.out) | ((with_reducible refine gate_callee (f := 24) rfl ?_); refine goesL_ (some 6) rfl rfl Tryz.func24 (by kernel_rfl) rfl #[.agg #[.int .i64 a0_0, .int .i64 a0_1, .int .i64 a0_2, .string a0_3, .int .i64 a0_4, .int .i64 a0_5, .int .i64 a0_6, .int .i64 a0_7, .string a0_8, .slice A0_9 l0_9.length c0_9]] rfl zz25 ?_; (with_reducible refine (tree_small.calls a0_0 a0_1 a0_2 a0_3 a0_4 a0_5 a0_6 a0_7 a0_8 _ _ l0_9 true _ ?side1 ?side2 A3.out).mono ?_); (case side1 => repeat (first | exact (Kd.C_below HR0_9.out HB.out) | (with_reducible refine Kd.C_alloc ?_ _) | (with_reducible refine Kd.C_drewN ?_ _) | (with_reducible refine Kd.C_drew ?_))); (case side2 => exact HC0_9.out); rintro e w12 ⟨rfl, hb⟩; refine ⟨_, rfl, ?_⟩; have n0_ := Aside0.mk (blk_below (g := gb180) (o := .cells #[.int .i64 a0_0, .int .i64 a0_1, .int .i64 a0_2, .string a0_3, .int .i64 a0_4, .int .i64 a0_5, .int .i64 a0_6, .int .i64 a0_7, .string a0_8, .slice A0_9 l0_9.length c0_9] 31 (0, 0)) (zB BK180.out) hb); have n1_ := Aside0.mk (blk_below (g := gb181) (o := .cells #[.int .i64 a1_0, .int .i64 a1_1, .int .i64 a1_2, .string a1_3, .int .i64 a1_4, .int .i64 a1_5, .int .i64 a1_6, .int .i64 a1_7, .string a1_8, .slice A1_9 l1_9.length c1_9] 31 (0, 0)) (zB BK181.out) hb); have n2_ := Aside0.mk (below_step zz8 hb); clear BK180; clear BK181; clear HB; have BK180 := n0_; have BK181 := n1_; have HB := n2_; clear n0_ n1_ n2_; (try clear hb); (try clear hb2); (try clear hk); (try clear hi); obtain ⟨_, _, _, _, _, _, _, _, _, _, _, _, _, _, _, _, _, _, _, _⟩ := zC10 BK181.out) | (go_at_call 24; (with_reducible refine (tree_small.calls a1_0 a1_1 a1_2 a1_3 a1_4 a1_5 a1_6 a1_7 a1_8 _ _ l1_9 true _ ?side1 ?side2 A5.out).mono ?_); (case side1 => repeat (first | exact (Kd.C_below HR1_9.out HB.out) | (with_reducible refine Kd.C_alloc ?_ _) | (with_reducible refine Kd.C_drewN ?_ _) | (with_reducible refine Kd.C_drew ?_))); (case side2 => exact HC1_9.out); rintro e w14 ⟨rfl, hb⟩; have n0_ := Aside0.mk (blk_below (g := gb180) (o := .cells #[.int .i64 a0_0, .int .i64 a0_1, .int .i64 a0_2, .string a0_3, .int .i64 a0_4, .int .i64 a0_5, .int .i64 a0_6, .int .i64 a0_7, .string a0_8, .slice A0_9 l0_9.length c0_9] 31 (0, 0)) (zB BK180.out) hb); have n1_ := Aside0.mk (blk_below (g := gb181) (o := .cells #[.int .i64 a1_0, .int .i64 a1_1, .int .i64 a1_2, .string a1_3, .int .i64 a1_4, .int .i64 a1_5, .int .i64 a1_6, .int .i64 a1_7, .string a1_8, .slice A1_9 l1_9.length c1_9] 31 (0, 0)) (zB BK181.out) hb); have n2_ := Aside0.mk (below_step zz8 hb); clear BK180; clear BK181; clear HB; have BK180 := n0_; have BK181 := n1_; have HB := n2_; clear n0_ n1_ n2_; (try clear hb); (try clear hb2); (try clear hk); (try clear hi); obtain ⟨_, _, _, _, _, _, _, _, _, _, _, _, _, _, _, _, _, _, _, _⟩ := zC10 BK180.out; obtain ⟨_, _, _, _, _, _, _, _, _, _, _, _, _, _, _, _, _, _, _, _⟩ := zC10 BK181.out) | (go_at_call 35; (with_reducible refine (tree_same.calls k a0_0 a0_1 a0_2 a0_3 a0_4 a0_5 a0_6 a0_7 a0_8 _ _ l0_9 a1_0 a1_1 a1_2 a1_3 a1_4 a1_5 a1_6 a1_7 a1_8 _ _ l1_9 t184 _ ?side1 ?side2 ?side3 ?side4 A7.out).mono ?_); (case side1 => repeat (first | exact (Kd.C_below HR0_9.out HB.out) | (with_reducible refine Kd.C_alloc ?_ _) | (with_reducible refine Kd.C_drewN ?_ _) | (with_reducible refine Kd.C_drew ?_))); (case side2 => exact HC0_9.out); (case side3 => repeat (first | exact (Kd.C_below HR1_9.out HB.out) | (with_reducible refine Kd.C_alloc ?_ _) | (with_reducible refine Kd.C_drewN ?_ _) | (with_reducible refine Kd.C_drew ?_))); (case side4 => exact HC1_9.out); rintro e w17 ⟨rfl, hb⟩; have n0_ := Aside0.mk (blk_below (g := gb180) (o := .cells #[.int .i64 a0_0, .int .i64 a0_1, .int .i64 a0_2, .string a0_3, .int .i64 a0_4, .int .i64 a0_5, .int .i64 a0_6, .int .i64 a0_7, .string a0_8, .slice A0_9 l0_9.length c0_9] 31 (0, 0)) (zB BK180.out) hb); have n1_ := Aside0.mk (blk_below (g := gb181) (o := .cells #[.int .i64 a1_0, .int .i64 a1_1, .int .i64 a1_2, .string a1_3, .int .i64 a1_4, .int .i64 a1_5, .int .i64 a1_6, .int .i64 a1_7, .string a1_8, .slice A1_9 l1_9.length c1_9] 31 (0, 0)) (zB BK181.out) hb); have n2_ := Aside0.mk (below_step zz8 hb); clear BK180; clear BK181; clear HB; have BK180 := n0_; have BK181 := n1_; have HB := n2_; clear n0_ n1_ n2_; (try clear hb); (try clear hb2); (try clear hk); (try clear hi)))
      go_ret
      exact ⟨zz26, zz8⟩
    · replace c6 := Bool.eq_false_iff.mpr c6
      subst c6
      have H1 : (some false) = some r := by rw [if_neg (show ¬ (false = true) by decide)] at H; exact H
      clear H
      have H := H1
      clear H1
      obtain rfl := Option.some.inj H
      go_enter Tryz.func18, Tryz.ntmps18
      go_wp2_with (first | ((with_reducible refine gate_dst (N := 2) rfl ?_); refine box_event ?hg (N := 2) ?hd (cs := #[.int .i64 a0_0, .int .i64 a0_1, .int .i64 a0_2, .string a0_3, .int .i64 a0_4, .int .i64 a0_5, .int .i64 a0_6, .int .i64 a0_7, .string a0_8, .slice A0_9 l0_9.length c0_9]) (t := 31) ?hr ?_; (case hd => rfl); (case hg => rfl); (case hr => first | (go_simp; done) | (go_simp; rfl)); intro gb180 hg w18 hbox hb; have n0_ := Aside0.mk (below_step zz1 hb); have n1_ := Aside0.mk (hbox); have n2_ := Aside0.mk ((by rw [hg]; exact (below_size zz1) : w.heap.size ≤ gb180)); have n3_ := n2_; clear HB; have HB := n0_; have BK180 := n1_; have GW180 := n2_; have GE180 := n3_; clear n0_ n1_ n2_ n3_; clear hb hbox hg) | ((with_reducible refine gate_dst (N := 3) rfl ?_); refine box_event ?hg (N := 3) ?hd (cs := #[.int .i64 a1_0, .int .i64 a1_1, .int .i64 a1_2, .string a1_3, .int .i64 a1_4, .int .i64 a1_5, .int .i64 a1_6, .int .i64 a1_7, .string a1_8, .slice A1_9 l1_9.length c1_9]) (t := 31) ?hr ?_; (case hd => rfl); (case hg => rfl); (case hr => first | (go_simp; done) | (go_simp; rfl)); intro gb181 hg w19 hbox hb; have n0_ := Aside0.mk (blk_below (g := gb180) (o := .cells #[.int .i64 a0_0, .int .i64 a0_1, .int .i64 a0_2, .string a0_3, .int .i64 a0_4, .int .i64 a0_5, .int .i64 a0_6, .int .i64 a0_7, .string a0_8, .slice A0_9 l0_9.length c0_9] 31 (0, 0)) (zB BK180.out) hb); have n1_ := Aside0.mk (below_step zz15 hb); have n2_ := Aside0.mk (hbox); have n3_ := Aside0.mk ((by rw [hg]; exact (below_size zz15) : w.heap.size ≤ gb181)); have n4_ := n3_; have n5_ := Aside0.mk ((by rw [hg]; exact Nat.ne_of_lt (blk_lt (g := gb180) (o := .cells #[.int .i64 a0_0, .int .i64 a0_1, .int .i64 a0_2, .string a0_3, .int .i64 a0_4, .int .i64 a0_5, .int .i64 a0_6, .int .i64 a0_7, .string a0_8, .slice A0_9 l0_9.length c0_9] 31 (0, 0)) (zB BK180.out)) : gb180 ≠ gb181)); have n6_ := Aside0.mk ((by rw [hg]; exact Nat.ne_of_gt (blk_lt (g := gb180) (o := .cells #[.int .i64 a0_0, .int .i64 a0_1, .int .i64 a0_2, .string a0_3, .int .i64 a0_4, .int .i64 a0_5, .int .i64 a0_6, .int .i64 a0_7, .string a0_8, .slice A0_9 l0_9.length c0_9] 31 (0, 0)) (zB BK180.out)) : gb181 ≠ gb180)); clear BK180; clear HB; have BK180 := n0_; have HB := n1_; have BK181 := n2_; have GW181 := n3_; have GE181 := n4_; have NB180_181 := n5_; have NB181_180 := n6_; clear n0_ n1_ n2_ n3_ n4_ n5_ n6_; clear hb hbox hg; have hnb20 := NB180_181.out; have hnc20 := NB181_180.out; obtain ⟨_, _, _, _, _, _, _, _, _, _, _, _, _, _, _, _, _, _, _, _⟩ := zC10 BK180.out) | ((with_reducible refine gate_callee (f := 24) rfl ?_); refine goesL_ (some 6) rfl rfl Tryz.func24 (by kernel_rfl) rfl #[.agg #[.int .i64 a0_0, .int .i64 a0_1, .int .i64 a0_2, .string a0_3, .int .i64 a0_4, .int .i64 a0_5, .int .i64 a0_6, .int .i64 a0_7, .string a0_8, .slice A0_9 l0_9.length c0_9]] rfl zz25 ?_; (with_reducible refine (tree_small.calls a0_0 a0_1 a0_2 a0_3 a0_4 a0_5 a0_6 a0_7 a0_8 _ _ l0_9 true _ ?side1 ?side2 A3.out).mono ?_); (case side1 => repeat (first | exact (Kd.C_below HR0_9.out HB.out) | (with_reducible refine Kd.C_alloc ?_ _) | (with_reducible refine Kd.C_drewN ?_ _) | (with_reducible refine Kd.C_drew ?_))); (case side2 => exact HC0_9.out); rintro e w22 ⟨rfl, hb⟩; refine ⟨_, rfl, ?_⟩; have n0_ := Aside0.mk (blk_below (g := gb180) (o := .cells #[.int .i64 a0_0, .int .i64 a0_1, .int .i64 a0_2, .string a0_3, .int .i64 a0_4, .int .i64 a0_5, .int .i64 a0_6, .int .i64 a0_7, .string a0_8, .slice A0_9 l0_9.length c0_9] 31 (0, 0)) (zB BK180.out) hb); have n1_ := Aside0.mk (blk_below (g := gb181) (o := .cells #[.int .i64 a1_0, .int .i64 a1_1, .int .i64 a1_2, .string a1_3, .int .i64 a1_4, .int .i64 a1_5, .int .i64 a1_6, .int .i64 a1_7, .string a1_8, .slice A1_9 l1_9.length c1_9] 31 (0, 0)) (zB BK181.out) hb); have n2_ := Aside0.mk (below_step zz8 hb); clear BK180; clear BK181; clear HB; have BK180 := n0_; have BK181 := n1_; have HB := n2_; clear n0_ n1_ n2_; (try clear hb); (try clear hb2); (try clear hk); (try clear hi); obtain ⟨_, _, _, _, _, _, _, _, _, _, _, _, _, _, _, _, _, _, _, _⟩ := zC10 BK181.out) | (go_at_call 24; (with_reducible refine (tree_small.calls a1_0 a1_1 a1_2 a1_3 a1_4 a1_5 a1_6 a1_7 a1_8 _ _ l1_9 false _ ?side1 ?side2 A5.out).mono ?_); (case side1 => repeat (first | exact (Kd.C_below HR1_9.out HB.out) | (with_reducible refine Kd.C_alloc ?_ _) | (with_reducible refine Kd.C_drewN ?_ _) | (with_reducible refine Kd.C_drew ?_))); (case side2 => exact HC1_9.out); rintro e w24 ⟨rfl, hb⟩; have n0_ := Aside0.mk (blk_below (g := gb180) (o := .cells #[.int .i64 a0_0, .int .i64 a0_1, .int .i64 a0_2, .string a0_3, .int .i64 a0_4, .int .i64 a0_5, .int .i64 a0_6, .int .i64 a0_7, .string a0_8, .slice A0_9 l0_9.length c0_9] 31 (0, 0)) (zB BK180.out) hb); have n1_ := Aside0.mk (blk_below (g := gb181) (o := .cells #[.int .i64 a1_0, .int .i64 a1_1, .int .i64 a1_2, .string a1_3, .int .i64 a1_4, .int .i64 a1_5, .int .i64 a1_6, .int .i64 a1_7, .string a1_8, .slice A1_9 l1_9.length c1_9] 31 (0, 0)) (zB BK181.out) hb); have n2_ := Aside0.mk (below_step zz8 hb); clear BK180; clear BK181; clear HB; have BK180 := n0_; have BK181 := n1_; have HB := n2_; clear n0_ n1_ n2_; (try clear hb); (try clear hb2); (try clear hk); (try clear hi)))
      go_ret
      exact ⟨zz26, zz8⟩
  · replace c4 := Bool.eq_false_iff.mpr c4
    subst c4
    have H1 : (some false) = some r := by rw [if_neg (show ¬ (false = true) by decide)] at H; exact H
    clear H
    have H := H1
    clear H1
    obtain rfl := Option.some.inj H
    go_enter Tryz.func18, Tryz.ntmps18
    go_wp2_with (first | ((with_reducible refine gate_dst (N := 2) rfl ?_); refine box_event ?hg (N := 2) ?hd (cs := #[.int .i64 a0_0, .int .i64 a0_1, .int .i64 a0_2, .string a0_3, .int .i64 a0_4, .int .i64 a0_5, .int .i64 a0_6, .int .i64 a0_7, .string a0_8, .slice A0_9 l0_9.length c0_9]) (t := 31) ?hr ?_; (case hd => rfl); (case hg => rfl); (case hr => first | (go_simp; done) | (go_simp; rfl)); intro gb180 hg w25 hbox hb; have n0_ := Aside0.mk (below_step zz1 hb); have n1_ := Aside0.mk (hbox); have n2_ := Aside0.mk ((by rw [hg]; exact (below_size zz1) : w.heap.size ≤ gb180)); have n3_ := n2_; clear HB; have HB := n0_; have BK180 := n1_; have GW180 := n2_; have GE180 := n3_; clear n0_ n1_ n2_ n3_; clear hb hbox hg) | ((with_reducible refine gate_dst (N := 3) rfl ?_); refine box_event ?hg (N := 3) ?hd (cs := #[.int .i64 a1_0, .int .i64 a1_1, .int .i64 a1_2, .string a1_3, .int .i64 a1_4, .int .i64 a1_5, .int .i64 a1_6, .int .i64 a1_7, .string a1_8, .slice A1_9 l1_9.length c1_9]) (t := 31) ?hr ?_; (case hd => rfl); (case hg => rfl); (case hr => first | (go_simp; done) | (go_simp; rfl)); intro gb181 hg w26 hbox hb; have n0_ := Aside0.mk (blk_below (g := gb180) (o := .cells #[.int .i64 a0_0, .int .i64 a0_1, .int .i64 a0_2, .string a0_3, .int .i64 a0_4, .int .i64 a0_5, .int .i64 a0_6, .int .i64 a0_7, .string a0_8, .slice A0_9 l0_9.length c0_9] 31 (0, 0)) (zB BK180.out) hb); have n1_ := Aside0.mk (below_step zz15 hb); have n2_ := Aside0.mk (hbox); have n3_ := Aside0.mk ((by rw [hg]; exact (below_size zz15) : w.heap.size ≤ gb181)); have n4_ := n3_; have n5_ := Aside0.mk ((by rw [hg]; exact Nat.ne_of_lt (blk_lt (g := gb180) (o := .cells #[.int .i64 a0_0, .int .i64 a0_1, .int .i64 a0_2, .string a0_3, .int .i64 a0_4, .int .i64 a0_5, .int .i64 a0_6, .int .i64 a0_7, .string a0_8, .slice A0_9 l0_9.length c0_9] 31 (0, 0)) (zB BK180.out)) : gb180 ≠ gb181)); have n6_ := Aside0.mk ((by rw [hg]; exact Nat.ne_of_gt (blk_lt (g := gb180) (o := .cells #[.int .i64 a0_0, .int .i64 a0_1, .int .i64 a0_2, .string a0_3, .int .i64 a0_4, .int .i64 a0_5, .int .i64 a0_6, .int .i64 a0_7, .string a0_8, .slice A0_9 l0_9.length c0_9] 31 (0, 0)) (zB BK180.out)) : gb181 ≠ gb180)); clear BK180; clear HB; have BK180 := n0_; have HB := n1_; have BK181 := n2_; have GW181 := n3_; have GE181 := n4_; have NB180_181 := n5_; have NB181_180 := n6_; clear n0_ n1_ n2_ n3_ n4_ n5_ n6_; clear hb hbox hg; have hnb27 := NB180_181.out; have hnc27 := NB181_180.out; obtain ⟨_, _, _, _, _, _, _, _, _, _, _, _, _, _, _, _, _, _, _, _⟩ := zC10 BK180.out) | ((with_reducible refine gate_callee (f := 24) rfl ?_); refine goesL_ (some 6) rfl rfl Tryz.func24 (by kernel_rfl) rfl #[.agg #[.int .i64 a0_0, .int .i64 a0_1, .int .i64 a0_2, .string a0_3, .int .i64 a0_4, .int .i64 a0_5, .int .i64 a0_6, .int .i64 a0_7, .string a0_8, .slice A0_9 l0_9.length c0_9]] rfl zz25 ?_; (with_reducible refine (tree_small.calls a0_0 a0_1 a0_2 a0_3 a0_4 a0_5 a0_6 a0_7 a0_8 _ _ l0_9 false _ ?side1 ?side2 A3.out).mono ?_); (case side1 => repeat (first | exact (Kd.C_below HR0_9.out HB.out) | (with_reducible refine Kd.C_alloc ?_ _) | (with_reducible refine Kd.C_drewN ?_ _) | (with_reducible refine Kd.C_drew ?_))); (case side2 => exact HC0_9.out); rintro e w29 ⟨rfl, hb⟩; refine ⟨_, rfl, ?_⟩; have n0_ := Aside0.mk (blk_below (g := gb180) (o := .cells #[.int .i64 a0_0, .int .i64 a0_1, .int .i64 a0_2, .string a0_3, .int .i64 a0_4, .int .i64 a0_5, .int .i64 a0_6, .int .i64 a0_7, .string a0_8, .slice A0_9 l0_9.length c0_9] 31 (0, 0)) (zB BK180.out) hb); have n1_ := Aside0.mk (blk_below (g := gb181) (o := .cells #[.int .i64 a1_0, .int .i64 a1_1, .int .i64 a1_2, .string a1_3, .int .i64 a1_4, .int .i64 a1_5, .int .i64 a1_6, .int .i64 a1_7, .string a1_8, .slice A1_9 l1_9.length c1_9] 31 (0, 0)) (zB BK181.out) hb); have n2_ := Aside0.mk (below_step zz8 hb); clear BK180; clear BK181; clear HB; have BK180 := n0_; have BK181 := n1_; have HB := n2_; clear n0_ n1_ n2_; (try clear hb); (try clear hb2); (try clear hk); (try clear hi)))
    go_ret
    exact ⟨zz26, zz8⟩
end Go.Proofs.YtnomfbmebafolaaGreatDoor.P

namespace Go.Proofs.YtnomfbmebafolaaGreatDoor.P
open Go.RowKit Go.Proofs.YtnomfbmebafolaaGreatDoorW.PrintWords Go.Proofs.YtnomfbmebafolaaGreatDoorW.PrintLast Go.Proofs.YtnomfbmebafolaaGreatDoorW.PrintMore
open M (I64)
set_option linter.unusedVariables false
set_option linter.unusedSimpArgs false
abbrev S14 (X : World) (g : Nat) (v0 v1 v2 v3 v4 v5 v6 v7 v8 v9 v10 v11 v12 v13 : Value) : Prop := X.cell? ⟨g, 0, none⟩ = some v0 ∧ X.cell? ⟨g, 1, none⟩ = some v1 ∧ X.cell? ⟨g, 2, none⟩ = some v2 ∧ X.cell? ⟨g, 3, none⟩ = some v3 ∧ X.cell? ⟨g, 4, none⟩ = some v4 ∧ X.cell? ⟨g, 5, none⟩ = some v5 ∧ X.cell? ⟨g, 6, none⟩ = some v6 ∧ X.cell? ⟨g, 7, none⟩ = some v7 ∧ X.cell? ⟨g, 8, none⟩ = some v8 ∧ X.cell? ⟨g, 9, none⟩ = some v9 ∧ X.cell? ⟨g, 10, none⟩ = some v10 ∧ X.cell? ⟨g, 11, none⟩ = some v11 ∧ X.cell? ⟨g, 12, none⟩ = some v12 ∧ X.cell? ⟨g, 13, none⟩ = some v13
theorem s14_below {X Y : World} {g : Nat} {v0 v1 v2 v3 v4 v5 v6 v7 v8 v9 v10 v11 v12 v13 : Value} (hb : Below X.heap.size X Y) (h : S14 X g v0 v1 v2 v3 v4 v5 v6 v7 v8 v9 v10 v11 v12 v13) : S14 Y g v0 v1 v2 v3 v4 v5 v6 v7 v8 v9 v10 v11 v12 v13 :=
  have one : ∀ (p : Addr) (v : Value), X.cell? p = some v → Y.cell? p = some v := fun p v h => (Below.cell hb (World.block_lt_of_cell? _ _ h)).trans h
  ⟨one _ _ h.1, one _ _ h.2.1, one _ _ h.2.2.1, one _ _ h.2.2.2.1, one _ _ h.2.2.2.2.1, one _ _ h.2.2.2.2.2.1, one _ _ h.2.2.2.2.2.2.1, one _ _ h.2.2.2.2.2.2.2.1, one _ _ h.2.2.2.2.2.2.2.2.1, one _ _ h.2.2.2.2.2.2.2.2.2.1, one _ _ h.2.2.2.2.2.2.2.2.2.2.1, one _ _ h.2.2.2.2.2.2.2.2.2.2.2.1, one _ _ h.2.2.2.2.2.2.2.2.2.2.2.2.1, one _ _ h.2.2.2.2.2.2.2.2.2.2.2.2.2⟩
theorem s14_drew {X : World} {g : Nat} {v0 v1 v2 v3 v4 v5 v6 v7 v8 v9 v10 v11 v12 v13 : Value} (h : S14 X g v0 v1 v2 v3 v4 v5 v6 v7 v8 v9 v10 v11 v12 v13) : S14 X.drew g v0 v1 v2 v3 v4 v5 v6 v7 v8 v9 v10 v11 v12 v13 := h
theorem s14_of {X : World} {g : Nat} {t : TypeId} {v0 v1 v2 v3 v4 v5 v6 v7 v8 v9 v10 v11 v12 v13 : Value} (h : X.heap[g]? = some (.cells #[v0, v1, v2, v3, v4, v5, v6, v7, v8, v9, v10, v11, v12, v13] t (0, 0))) : S14 X g v0 v1 v2 v3 v4 v5 v6 v7 v8 v9 v10 v11 v12 v13 := (z14 h).1
theorem kc_drew {W : World} {A : Option Addr} {n : Nat} {l : List TN} (h : Kd.C k31 W A n l) : Kd.C k31 W.drew A n l := Kd.C_below h (Below.drew (Below.refl _ _))
theorem tsame0 (k : Nat) (t : TN) (A : Option Addr) (c : Nat) (b : Bool) (w : World) (hr : Kd.C k31 w A t.f4.length t.f4) (hc : t.f4.length ≤ c) (h : tree_Same.f k t.f0 t.f1.f0 t.f1.f1 t.f1.f2 t.f2.f0.f0 t.f2.f0.f1 t.f2.f1.f0 t.f2.f1.f1 t.f3 t.f4 0 0 0 ⟨#[]⟩ 0 0 0 0 ⟨#[]⟩ [] = some b) :
    Calls Tryz.prog 18 #[.agg #[.int .i64 t.f0, .int .i64 t.f1.f0, .int .i64 t.f1.f1, .string t.f1.f2, .int .i64 t.f2.f0.f0, .int .i64 t.f2.f0.f1, .int .i64 t.f2.f1.f0, .int .i64 t.f2.f1.f1, .string t.f3, .slice A t.f4.length c], .agg #[.int .i64 0, .int .i64 0, .int .i64 0, .string ⟨#[]⟩, .int .i64 0, .int .i64 0, .int .i64 0, .int .i64 0, .string ⟨#[]⟩, .slice none 0 0]] w fun e w' => e = .returned (.bool b) ∧ Below w.heap.size w w' :=
  tree_Same.calls k _ _ _ _ _ _ _ _ _ A c t.f4 _ _ _ _ _ _ _ _ _ none 0 [] b w hr hc (Kd.V_reads' (A := none) (xs := ([] : List TN)) (c := 0) (Kd.V_nil k31 31 w 0 (fun _ => True))).2.2 (Nat.le_refl _) h
theorem tsame00 (k : Nat) (A : Option Addr) (c : Nat) (b : Bool) (w : World) (hr : Kd.C k31 w A 0 ([] : List TN)) (h : tree_Same.f k 0 0 0 ⟨#[]⟩ 0 0 0 0 ⟨#[]⟩ [] 0 0 0 ⟨#[]⟩ 0 0 0 0 ⟨#[]⟩ [] = some b) :
    Calls Tryz.prog 18 #[.agg #[.int .i64 0, .int .i64 0, .int .i64 0, .string ⟨#[]⟩, .int .i64 0, .int .i64 0, .int .i64 0, .int .i64 0, .string ⟨#[]⟩, .slice A 0 c], .agg #[.int .i64 0, .int .i64 0, .int .i64 0, .string ⟨#[]⟩, .int .i64 0, .int .i64 0, .int .i64 0, .int .i64 0, .string ⟨#[]⟩, .slice none 0 0]] w fun e w' => e = .returned (.bool b) ∧ Below w.heap.size w w' :=
  tree_Same.calls k _ _ _ _ _ _ _ _ _ A c [] _ _ _ _ _ _ _ _ _ none 0 [] b w hr (Nat.zero_le _) (Kd.V_reads' (A := none) (xs := ([] : List TN)) (c := 0) (Kd.V_nil k31 31 w 0 (fun _ => True))).2.2 (Nat.le_refl _) h
set_option maxHeartbeats 8000000 in
set_option maxRecDepth 100000 in
theorem write_int (k : Nat) (A : Option Addr) (c : Nat) (n : Int) (d : ByteArray) (hd : value_Show.f 2 n ⟨#[]⟩ = some d) (hz : d.size ≤ 300) (hsn : tree_Same.f k 0 0 0 ⟨#[]⟩ 0 0 0 0 ⟨#[]⟩ [] 0 0 0 ⟨#[]⟩ 0 0 0 0 ⟨#[]⟩ [] = some true) (W : World) (hCR : Kd.C k31 W A 0 ([] : List TN)) (hG : G5 W) : Calls Tryz.prog 8 #[.agg #[.int .i64 1, .int .i64 2, .int .i64 n, .string (⟨#[]⟩ : ByteArray), .int .i64 0, .int .i64 0, .int .i64 0, .string (⟨#[]⟩ : ByteArray), .int .i64 0, .int .i64 0, .int .i64 0, .int .i64 0, .string (⟨#[]⟩ : ByteArray), .slice A 0 c]] W fun e W' => e = .returned (.tuple #[.string d, .int .i64 0]) ∧ Below W.heap.size W W' := by
  have hu := Tryz.underlying40
  have hu2 := Tryz.underlying31
  have hu3 := Tryz.underlying24
  have HG := Lib.hid hG
  have HCR := Lib.hid hCR
  have HSV := Lib.hid (show value_Same.f 2 n ⟨#[]⟩ 0 0 ⟨#[]⟩ = some false from (by unfold value_Same.f; rw [if_neg (by decide)]))
  have HGD := Lib.hid (show value_Good.f 2 n ⟨#[]⟩ = some true from (by unfold value_Good.f; rw [if_neg (by decide), if_neg (by decide), if_pos rfl, ByteArray.toList_eq]; rfl))
  have HSN := Lib.hid hsn
  have HSH := Lib.hid hd
  have z1 : decide ((300 : Int) < (d.size : Int)) = false := decide_eq_false (by omega)
  clear hd hsn
  clear hG
  go_enter Tryz.func8, Tryz.ntmps8
  go_upto_region 2 with fail
  have hbx : (World.heap (World.alloc W (.cells #[.int .i64 1, .int .i64 2, .int .i64 n, .string (⟨#[]⟩ : ByteArray), .int .i64 0, .int .i64 0, .int .i64 0, .string (⟨#[]⟩ : ByteArray), .int .i64 0, .int .i64 0, .int .i64 0, .int .i64 0, .string (⟨#[]⟩ : ByteArray), .slice A 0 c] 40)))[W.heap.size]? = some (.cells #[.int .i64 1, .int .i64 2, .int .i64 n, .string (⟨#[]⟩ : ByteArray), .int .i64 0, .int .i64 0, .int .i64 0, .string (⟨#[]⟩ : ByteArray), .int .i64 0, .int .i64 0, .int .i64 0, .int .i64 0, .string (⟨#[]⟩ : ByteArray), .slice A 0 c] 40) := blk_new W _
  have hb0 : Below W.heap.size W (World.alloc W (.cells #[.int .i64 1, .int .i64 2, .int .i64 n, .string (⟨#[]⟩ : ByteArray), .int .i64 0, .int .i64 0, .int .i64 0, .string (⟨#[]⟩ : ByteArray), .int .i64 0, .int .i64 0, .int .i64 0, .int .i64 0, .string (⟨#[]⟩ : ByteArray), .slice A 0 c] 40)) := below_alloc (Below.refl _ _) _
  have hrow : Kd.C k31 (World.alloc W (.cells #[.int .i64 1, .int .i64 2, .int .i64 n, .string (⟨#[]⟩ : ByteArray), .int .i64 0, .int .i64 0, .int .i64 0, .string (⟨#[]⟩ : ByteArray), .int .i64 0, .int .i64 0, .int .i64 0, .int .i64 0, .string (⟨#[]⟩ : ByteArray), .slice A 0 c] 40)) A 0 ([] : List TN) := Kd.C_alloc HCR.out _
  generalize (World.alloc W (.cells #[.int .i64 1, .int .i64 2, .int .i64 n, .string (⟨#[]⟩ : ByteArray), .int .i64 0, .int .i64 0, .int .i64 0, .string (⟨#[]⟩ : ByteArray), .int .i64 0, .int .i64 0, .int .i64 0, .int .i64 0, .string (⟨#[]⟩ : ByteArray), .slice A 0 c] 40)) = x at hbx hb0 hrow ⊢
  have BX0 := Lib.hid hbx
  have HB0 := Lib.hid hb0
  have HR0 := Lib.hid hrow
  have KK := Lib.hid (s14_of hbx)
  obtain ⟨c0_, c1_, c2_, c3_, c4_, c5_, c6_, c7_, c8_, c9_, c10_, c11_, c12_, c13_⟩ := KK.out
  clear hbx hb0 hrow
  go_region_held3 (fun w' => w'.cell? ⟨W.heap.size, 0, none⟩ = some (.int .i64 1) ∧ w'.cell? ⟨W.heap.size, 1, none⟩ = some (.int .i64 2) ∧ w'.cell? ⟨W.heap.size, 2, none⟩ = some (.int .i64 n) ∧ w'.cell? ⟨W.heap.size, 3, none⟩ = some (.string (⟨#[]⟩ : ByteArray)) ∧ w'.cell? ⟨W.heap.size, 4, none⟩ = some (.int .i64 0) ∧ w'.cell? ⟨W.heap.size, 5, none⟩ = some (.int .i64 0) ∧ w'.cell? ⟨W.heap.size, 6, none⟩ = some (.int .i64 0) ∧ w'.cell? ⟨W.heap.size, 7, none⟩ = some (.string (⟨#[]⟩ : ByteArray)) ∧ w'.cell? ⟨W.heap.size, 8, none⟩ = some (.int .i64 0) ∧ w'.cell? ⟨W.heap.size, 9, none⟩ = some (.int .i64 0) ∧ w'.cell? ⟨W.heap.size, 10, none⟩ = some (.int .i64 0) ∧ w'.cell? ⟨W.heap.size, 11, none⟩ = some (.int .i64 0) ∧ w'.cell? ⟨W.heap.size, 12, none⟩ = some (.string (⟨#[]⟩ : ByteArray)) ∧ w'.cell? ⟨W.heap.size, 13, none⟩ = some (.slice A 0 c)) (with_reducible repeat (first | exact KK.out | refine s14_drew ?_ | refine s14_drewN _ ?_ | refine s14_below (by assumption) ?_)) (first | (go_at_call 17; (with_reducible refine (value_Same.calls 2 n (⟨#[]⟩ : ByteArray) 0 0 ⟨#[]⟩ false _ HSV.out).mono ?_); rintro e x1 ⟨rfl, hv_⟩) | (go_at_call 18; (with_reducible refine (tsame00 k A c true _ ?r1 HSN.out).mono ?_); (case r1 => exact (by with_reducible repeat (first | exact HR0.out | refine kc_drew ?_ | refine kc_drewN ?_ _ | refine Kd.C_below ?_ (by assumption)))); rintro e x2 ⟨rfl, hn_⟩))
  all_goals clear c0_ c1_ c2_ c3_ c4_ c5_ c6_ c7_ c8_ c9_ c10_ c11_ c12_ c13_ KK
  all_goals rename_i hh_
  all_goals obtain ⟨c0_, c1_, c2_, c3_, c4_, c5_, c6_, c7_, c8_, c9_, c10_, c11_, c12_, c13_⟩ := hh_
  all_goals go_wp2_with (first | (go_at_call 19; (with_reducible refine (value_Good.calls 2 n ⟨#[]⟩ true _ HGD.out).mono ?_); rintro e y1 ⟨rfl, hg_⟩; have q_ := s14_below (g := W.heap.size) hg_ ⟨c0_, c1_, c2_, c3_, c4_, c5_, c6_, c7_, c8_, c9_, c10_, c11_, c12_, c13_⟩; obtain ⟨c0_, c1_, c2_, c3_, c4_, c5_, c6_, c7_, c8_, c9_, c10_, c11_, c12_, c13_⟩ := q_) | (go_at_call 20; (with_reducible refine (value_Show.calls 2 n ⟨#[]⟩ d _ ?sg HSH.out).mono ?_); (case sg => exact gl_5_1 (by with_reducible repeat (first | exact HB0.out | refine Below.drew ?_ | refine pw_below_drewN ?_ _ | refine below_step ?_ (by assumption))) HG.out); rintro e y2 ⟨rfl, hw_⟩))
  all_goals go_ret2
  all_goals exact ⟨rfl, (by with_reducible repeat (first | exact HB0.out | refine Below.drew ?_ | refine pw_below_drewN ?_ _ | refine below_step ?_ (by assumption)))⟩
set_option maxHeartbeats 8000000 in
set_option maxRecDepth 100000 in
theorem write_txt (k : Nat) (A : Option Addr) (c : Nat) (s t : ByteArray) (hs : s.size ≤ 200) (ht : source_text.f k 3 0 s = some t) (hz : t.size ≤ 300) (hsn : tree_Same.f k 0 0 0 ⟨#[]⟩ 0 0 0 0 ⟨#[]⟩ [] 0 0 0 ⟨#[]⟩ 0 0 0 0 ⟨#[]⟩ [] = some true) (W : World) (hCR : Kd.C k31 W A 0 ([] : List TN)) (hG : G5 W) : Calls Tryz.prog 8 #[.agg #[.int .i64 1, .int .i64 3, .int .i64 0, .string s, .int .i64 0, .int .i64 0, .int .i64 0, .string (⟨#[]⟩ : ByteArray), .int .i64 0, .int .i64 0, .int .i64 0, .int .i64 0, .string (⟨#[]⟩ : ByteArray), .slice A 0 c]] W fun e W' => e = .returned (.tuple #[.string t, .int .i64 0]) ∧ Below W.heap.size W W' := by
  have hu := Tryz.underlying40
  have hu2 := Tryz.underlying31
  have hu3 := Tryz.underlying24
  have HG := Lib.hid hG
  have HCR := Lib.hid hCR
  have HSV := Lib.hid (show value_Same.f 3 0 s 0 0 ⟨#[]⟩ = some false from (by unfold value_Same.f; rw [if_neg (by decide)]))
  have HGD := Lib.hid (show value_Good.f 3 0 s = some true from (by unfold value_Good.f; rw [if_neg (by decide), if_neg (by decide), if_neg (by decide), if_pos rfl, if_pos rfl]; exact congrArg some (decide_eq_true (by omega))))
  have HSN := Lib.hid hsn
  have HTX := Lib.hid ht
  have z1 : decide ((300 : Int) < (t.size : Int)) = false := decide_eq_false (by omega)
  clear ht hsn hs
  clear hG
  go_enter Tryz.func8, Tryz.ntmps8
  go_upto_region 2 with fail
  have hbx : (World.heap (World.alloc W (.cells #[.int .i64 1, .int .i64 3, .int .i64 0, .string s, .int .i64 0, .int .i64 0, .int .i64 0, .string (⟨#[]⟩ : ByteArray), .int .i64 0, .int .i64 0, .int .i64 0, .int .i64 0, .string (⟨#[]⟩ : ByteArray), .slice A 0 c] 40)))[W.heap.size]? = some (.cells #[.int .i64 1, .int .i64 3, .int .i64 0, .string s, .int .i64 0, .int .i64 0, .int .i64 0, .string (⟨#[]⟩ : ByteArray), .int .i64 0, .int .i64 0, .int .i64 0, .int .i64 0, .string (⟨#[]⟩ : ByteArray), .slice A 0 c] 40) := blk_new W _
  have hb0 : Below W.heap.size W (World.alloc W (.cells #[.int .i64 1, .int .i64 3, .int .i64 0, .string s, .int .i64 0, .int .i64 0, .int .i64 0, .string (⟨#[]⟩ : ByteArray), .int .i64 0, .int .i64 0, .int .i64 0, .int .i64 0, .string (⟨#[]⟩ : ByteArray), .slice A 0 c] 40)) := below_alloc (Below.refl _ _) _
  have hrow : Kd.C k31 (World.alloc W (.cells #[.int .i64 1, .int .i64 3, .int .i64 0, .string s, .int .i64 0, .int .i64 0, .int .i64 0, .string (⟨#[]⟩ : ByteArray), .int .i64 0, .int .i64 0, .int .i64 0, .int .i64 0, .string (⟨#[]⟩ : ByteArray), .slice A 0 c] 40)) A 0 ([] : List TN) := Kd.C_alloc HCR.out _
  generalize (World.alloc W (.cells #[.int .i64 1, .int .i64 3, .int .i64 0, .string s, .int .i64 0, .int .i64 0, .int .i64 0, .string (⟨#[]⟩ : ByteArray), .int .i64 0, .int .i64 0, .int .i64 0, .int .i64 0, .string (⟨#[]⟩ : ByteArray), .slice A 0 c] 40)) = x at hbx hb0 hrow ⊢
  have BX0 := Lib.hid hbx
  have HB0 := Lib.hid hb0
  have HR0 := Lib.hid hrow
  have KK := Lib.hid (s14_of hbx)
  obtain ⟨c0_, c1_, c2_, c3_, c4_, c5_, c6_, c7_, c8_, c9_, c10_, c11_, c12_, c13_⟩ := KK.out
  clear hbx hb0 hrow
  go_region_held3 (fun w' => w'.cell? ⟨W.heap.size, 0, none⟩ = some (.int .i64 1) ∧ w'.cell? ⟨W.heap.size, 1, none⟩ = some (.int .i64 3) ∧ w'.cell? ⟨W.heap.size, 2, none⟩ = some (.int .i64 0) ∧ w'.cell? ⟨W.heap.size, 3, none⟩ = some (.string s) ∧ w'.cell? ⟨W.heap.size, 4, none⟩ = some (.int .i64 0) ∧ w'.cell? ⟨W.heap.size, 5, none⟩ = some (.int .i64 0) ∧ w'.cell? ⟨W.heap.size, 6, none⟩ = some (.int .i64 0) ∧ w'.cell? ⟨W.heap.size, 7, none⟩ = some (.string (⟨#[]⟩ : ByteArray)) ∧ w'.cell? ⟨W.heap.size, 8, none⟩ = some (.int .i64 0) ∧ w'.cell? ⟨W.heap.size, 9, none⟩ = some (.int .i64 0) ∧ w'.cell? ⟨W.heap.size, 10, none⟩ = some (.int .i64 0) ∧ w'.cell? ⟨W.heap.size, 11, none⟩ = some (.int .i64 0) ∧ w'.cell? ⟨W.heap.size, 12, none⟩ = some (.string (⟨#[]⟩ : ByteArray)) ∧ w'.cell? ⟨W.heap.size, 13, none⟩ = some (.slice A 0 c)) (with_reducible repeat (first | exact KK.out | refine s14_drew ?_ | refine s14_drewN _ ?_ | refine s14_below (by assumption) ?_)) (first | (go_at_call 17; (with_reducible refine (value_Same.calls 3 0 s 0 0 ⟨#[]⟩ false _ HSV.out).mono ?_); rintro e x1 ⟨rfl, hv_⟩) | (go_at_call 18; (with_reducible refine (tsame00 k A c true _ ?r1 HSN.out).mono ?_); (case r1 => exact (by with_reducible repeat (first | exact HR0.out | refine kc_drew ?_ | refine kc_drewN ?_ _ | refine Kd.C_below ?_ (by assumption)))); rintro e x2 ⟨rfl, hn_⟩))
  all_goals clear c0_ c1_ c2_ c3_ c4_ c5_ c6_ c7_ c8_ c9_ c10_ c11_ c12_ c13_ KK
  all_goals rename_i hh_
  all_goals obtain ⟨c0_, c1_, c2_, c3_, c4_, c5_, c6_, c7_, c8_, c9_, c10_, c11_, c12_, c13_⟩ := hh_
  all_goals go_wp2_with (first | (go_at_call 19; (with_reducible refine (value_Good.calls 3 0 s true _ HGD.out).mono ?_); rintro e y1 ⟨rfl, hg_⟩; have q_ := s14_below (g := W.heap.size) hg_ ⟨c0_, c1_, c2_, c3_, c4_, c5_, c6_, c7_, c8_, c9_, c10_, c11_, c12_, c13_⟩; obtain ⟨c0_, c1_, c2_, c3_, c4_, c5_, c6_, c7_, c8_, c9_, c10_, c11_, c12_, c13_⟩ := q_) | (go_at_call 21; (with_reducible refine (source_text.calls k 3 0 s t _ ?sg HTX.out).mono ?_); (case sg => exact gl_5_5 (by with_reducible repeat (first | exact HB0.out | refine Below.drew ?_ | refine pw_below_drewN ?_ _ | refine below_step ?_ (by assumption))) HG.out); rintro e y2 ⟨rfl, hw_⟩))
  all_goals go_ret2
  all_goals exact ⟨rfl, (by with_reducible repeat (first | exact HB0.out | refine Below.drew ?_ | refine pw_below_drewN ?_ _ | refine below_step ?_ (by assumption)))⟩
set_option maxHeartbeats 8000000 in
set_option maxRecDepth 100000 in
theorem write_for (k : Nat) (t : TN) (A : Option Addr) (c : Nat) (r : ByteArray) (b : Bool)  (hc : t.f4.length ≤ c) (hp : print_Text.f k t.f0 t.f1.f0 t.f1.f1 t.f1.f2 t.f2.f0.f0 t.f2.f0.f1 t.f2.f1.f0 t.f2.f1.f1 t.f3 t.f4 = some (r, 0)) (hz : r.size < 300) (hsn : tree_Same.f k t.f0 t.f1.f0 t.f1.f1 t.f1.f2 t.f2.f0.f0 t.f2.f0.f1 t.f2.f1.f0 t.f2.f1.f1 t.f3 t.f4 0 0 0 ⟨#[]⟩ 0 0 0 0 ⟨#[]⟩ [] = some b) (W : World) (hCR : Kd.C k31 W A t.f4.length t.f4) (hG : G5 W) : Calls Tryz.prog 8 #[.agg #[.int .i64 2, .int .i64 0, .int .i64 0, .string (⟨#[]⟩ : ByteArray), .int .i64 t.f0, .int .i64 t.f1.f0, .int .i64 t.f1.f1, .string t.f1.f2, .int .i64 t.f2.f0.f0, .int .i64 t.f2.f0.f1, .int .i64 t.f2.f1.f0, .int .i64 t.f2.f1.f1, .string t.f3, .slice A t.f4.length c]] W fun e W' => e = .returned (.tuple #[.string ((⟨#[61]⟩ : ByteArray) ++ r), .int .i64 0]) ∧ Below W.heap.size W W' := by
  have hu := Tryz.underlying40
  have hu2 := Tryz.underlying31
  have hu3 := Tryz.underlying24
  have HG := Lib.hid hG
  have HCR := Lib.hid hCR
  have HSV := Lib.hid (show value_Same.f 0 0 ⟨#[]⟩ 0 0 ⟨#[]⟩ = some true from (by unfold value_Same.f; rw [if_pos rfl, if_pos rfl, ByteArray.toList_eq]; rfl))
  have HSN := Lib.hid hsn
  have HPT := Lib.hid hp
  have HLR := Lib.hid hc
  have s1 : (9223372036854775807 < 1 + r.size) = False := eq_false (by omega)
  have s2 : (1 + r.size ≤ 9223372036854775807) = True := eq_true (by omega)
  have s3 : decide (1 + r.size ≤ 9223372036854775807) = true := decide_eq_true (by omega)
  have z1 : decide ((300 : Int) < 1 + (r.size : Int)) = false := decide_eq_false (by omega)
  have z2 : decide (300 < 1 + r.size) = false := decide_eq_false (by omega)
  clear hp hsn hc hz
  clear hG
  go_enter Tryz.func8, Tryz.ntmps8
  go_upto_region 2 with fail
  have hbx : (World.heap (World.alloc W (.cells #[.int .i64 2, .int .i64 0, .int .i64 0, .string (⟨#[]⟩ : ByteArray), .int .i64 t.f0, .int .i64 t.f1.f0, .int .i64 t.f1.f1, .string t.f1.f2, .int .i64 t.f2.f0.f0, .int .i64 t.f2.f0.f1, .int .i64 t.f2.f1.f0, .int .i64 t.f2.f1.f1, .string t.f3, .slice A t.f4.length c] 40)))[W.heap.size]? = some (.cells #[.int .i64 2, .int .i64 0, .int .i64 0, .string (⟨#[]⟩ : ByteArray), .int .i64 t.f0, .int .i64 t.f1.f0, .int .i64 t.f1.f1, .string t.f1.f2, .int .i64 t.f2.f0.f0, .int .i64 t.f2.f0.f1, .int .i64 t.f2.f1.f0, .int .i64 t.f2.f1.f1, .string t.f3, .slice A t.f4.length c] 40) := blk_new W _
  have hb0 : Below W.heap.size W (World.alloc W (.cells #[.int .i64 2, .int .i64 0, .int .i64 0, .string (⟨#[]⟩ : ByteArray), .int .i64 t.f0, .int .i64 t.f1.f0, .int .i64 t.f1.f1, .string t.f1.f2, .int .i64 t.f2.f0.f0, .int .i64 t.f2.f0.f1, .int .i64 t.f2.f1.f0, .int .i64 t.f2.f1.f1, .string t.f3, .slice A t.f4.length c] 40)) := below_alloc (Below.refl _ _) _
  have hrow : Kd.C k31 (World.alloc W (.cells #[.int .i64 2, .int .i64 0, .int .i64 0, .string (⟨#[]⟩ : ByteArray), .int .i64 t.f0, .int .i64 t.f1.f0, .int .i64 t.f1.f1, .string t.f1.f2, .int .i64 t.f2.f0.f0, .int .i64 t.f2.f0.f1, .int .i64 t.f2.f1.f0, .int .i64 t.f2.f1.f1, .string t.f3, .slice A t.f4.length c] 40)) A t.f4.length t.f4 := Kd.C_alloc HCR.out _
  generalize (World.alloc W (.cells #[.int .i64 2, .int .i64 0, .int .i64 0, .string (⟨#[]⟩ : ByteArray), .int .i64 t.f0, .int .i64 t.f1.f0, .int .i64 t.f1.f1, .string t.f1.f2, .int .i64 t.f2.f0.f0, .int .i64 t.f2.f0.f1, .int .i64 t.f2.f1.f0, .int .i64 t.f2.f1.f1, .string t.f3, .slice A t.f4.length c] 40)) = x at hbx hb0 hrow ⊢
  have BX0 := Lib.hid hbx
  have HB0 := Lib.hid hb0
  have HR0 := Lib.hid hrow
  have KK := Lib.hid (s14_of hbx)
  obtain ⟨c0_, c1_, c2_, c3_, c4_, c5_, c6_, c7_, c8_, c9_, c10_, c11_, c12_, c13_⟩ := KK.out
  clear hbx hb0 hrow
  go_region_held3 (fun w' => w'.cell? ⟨W.heap.size, 0, none⟩ = some (.int .i64 2) ∧ w'.cell? ⟨W.heap.size, 1, none⟩ = some (.int .i64 0) ∧ w'.cell? ⟨W.heap.size, 2, none⟩ = some (.int .i64 0) ∧ w'.cell? ⟨W.heap.size, 3, none⟩ = some (.string (⟨#[]⟩ : ByteArray)) ∧ w'.cell? ⟨W.heap.size, 4, none⟩ = some (.int .i64 t.f0) ∧ w'.cell? ⟨W.heap.size, 5, none⟩ = some (.int .i64 t.f1.f0) ∧ w'.cell? ⟨W.heap.size, 6, none⟩ = some (.int .i64 t.f1.f1) ∧ w'.cell? ⟨W.heap.size, 7, none⟩ = some (.string t.f1.f2) ∧ w'.cell? ⟨W.heap.size, 8, none⟩ = some (.int .i64 t.f2.f0.f0) ∧ w'.cell? ⟨W.heap.size, 9, none⟩ = some (.int .i64 t.f2.f0.f1) ∧ w'.cell? ⟨W.heap.size, 10, none⟩ = some (.int .i64 t.f2.f1.f0) ∧ w'.cell? ⟨W.heap.size, 11, none⟩ = some (.int .i64 t.f2.f1.f1) ∧ w'.cell? ⟨W.heap.size, 12, none⟩ = some (.string t.f3) ∧ w'.cell? ⟨W.heap.size, 13, none⟩ = some (.slice A t.f4.length c)) (with_reducible repeat (first | exact KK.out | refine s14_drew ?_ | refine s14_drewN _ ?_ | refine s14_below (by assumption) ?_)) (first | (go_at_call 17; (with_reducible refine (value_Same.calls 0 0 (⟨#[]⟩ : ByteArray) 0 0 ⟨#[]⟩ true _ HSV.out).mono ?_); rintro e x1 ⟨rfl, hv_⟩) | (go_at_call 18; (with_reducible refine (tsame0 k t A c b _ ?r1 HLR.out HSN.out).mono ?_); (case r1 => exact (by with_reducible repeat (first | exact HR0.out | refine kc_drew ?_ | refine kc_drewN ?_ _ | refine Kd.C_below ?_ (by assumption)))); rintro e x2 ⟨rfl, hn_⟩))
  all_goals clear c0_ c1_ c2_ c3_ c4_ c5_ c6_ c7_ c8_ c9_ c10_ c11_ c12_ c13_ KK
  all_goals rename_i hh_
  all_goals obtain ⟨c0_, c1_, c2_, c3_, c4_, c5_, c6_, c7_, c8_, c9_, c10_, c11_, c12_, c13_⟩ := hh_
  all_goals go_wp2_with (first | (go_at_call 5; (with_reducible refine (print_Text.calls k t.f0 t.f1.f0 t.f1.f1 t.f1.f2 t.f2.f0.f0 t.f2.f0.f1 t.f2.f1.f0 t.f2.f1.f1 t.f3 A c t.f4 r 0 _ ?hr HLR.out ?sg HPT.out).mono ?_); (case hr => exact (by with_reducible repeat (first | exact HR0.out | refine kc_drew ?_ | refine kc_drewN ?_ _ | refine Kd.C_below ?_ (by assumption)))); (case sg => exact gl_5_1 (by with_reducible repeat (first | exact HB0.out | refine Below.drew ?_ | refine pw_below_drewN ?_ _ | refine below_step ?_ (by assumption))) HG.out); rintro e y2 ⟨rfl, hw_⟩))
  all_goals go_ret2
  all_goals exact ⟨rfl, (by with_reducible repeat (first | exact HB0.out | refine Below.drew ?_ | refine pw_below_drewN ?_ _ | refine below_step ?_ (by assumption)))⟩
def source_Write.f (k : Nat) (a0 a1 a2 : Int) (a3 : ByteArray) (a4 a5 a6 : Int) (a7 : ByteArray) (a8 a9 a10 a11 : Int) (a12 : ByteArray) (l13 : List S31) : Option (ByteArray × Int) :=
  if a0 = 1 ∧ a4 = 0 ∧ a5 = 0 ∧ a6 = 0 ∧ a7 = (⟨#[]⟩ : ByteArray) ∧ a8 = 0 ∧ a9 = 0 ∧ a10 = 0 ∧ a11 = 0 ∧ a12 = (⟨#[]⟩ : ByteArray) ∧ l13.length = 0 then (tree_Same.f k 0 0 0 ⟨#[]⟩ 0 0 0 0 ⟨#[]⟩ [] 0 0 0 ⟨#[]⟩ 0 0 0 0 ⟨#[]⟩ []).bind fun b => if b = true then
    (if a1 = 2 ∧ a3 = (⟨#[]⟩ : ByteArray) then (value_Show.f 2 a2 ⟨#[]⟩).bind fun d => if d.size ≤ 300 then some (d, 0) else none
    else if a1 = 3 ∧ a2 = 0 ∧ a3.size ≤ 200 then (source_text.f k 3 0 a3).bind fun t => if t.size ≤ 300 then some (t, 0) else none else none) else none
  else if a0 = 2 ∧ a1 = 0 ∧ a2 = 0 ∧ a3 = (⟨#[]⟩ : ByteArray) then (tree_Same.f k a4 a5 a6 a7 a8 a9 a10 a11 a12 l13 0 0 0 ⟨#[]⟩ 0 0 0 0 ⟨#[]⟩ []).bind fun b => (print_Text.f k a4 a5 a6 a7 a8 a9 a10 a11 a12 l13).bind fun r => if r.2 = 0 ∧ r.1.size < 300 then some ((⟨#[61]⟩ : ByteArray) ++ r.1, 0) else none
  else none
theorem source_Write.calls (k : Nat) (a0 a1 a2 : Int) (a3 : ByteArray) (a4 a5 a6 : Int) (a7 : ByteArray) (a8 a9 a10 a11 : Int) (a12 : ByteArray) (A13 : Option Addr) (c13 : Nat) (l13 : List S31) (r1 : ByteArray) (r2 : Int) (w : World) (hr : Kd.C k31 w A13 l13.length l13) (hc : l13.length ≤ c13) (hG : G5 w) (h : source_Write.f k a0 a1 a2 a3 a4 a5 a6 a7 a8 a9 a10 a11 a12 l13 = some (r1, r2)) :
    Calls Tryz.prog 8 #[.agg #[.int .i64 a0, .int .i64 a1, .int .i64 a2, .string a3, .int .i64 a4, .int .i64 a5, .int .i64 a6, .string a7, .int .i64 a8, .int .i64 a9, .int .i64 a10, .int .i64 a11, .string a12, .slice A13 l13.length c13]] w fun e w' => e = .returned (.tuple #[.string r1, .int .i64 r2]) ∧ Below w.heap.size w w' := by
  unfold source_Write.f at h
  split at h
  · rename_i hz
    obtain ⟨rfl, rfl, rfl, rfl, rfl, rfl, rfl, rfl, rfl, rfl, hl⟩ := hz
    obtain rfl := List.eq_nil_of_length_eq_zero hl
    replace h := Option.bind_eq_some_iff.1 h
    obtain ⟨b, hs, h⟩ := h
    cases b with
    | false => rw [if_neg (by decide)] at h; cases h
    | true =>
      rw [if_pos rfl] at h
      by_cases h2 : a1 = 2 ∧ a3 = (⟨#[]⟩ : ByteArray)
      · rw [if_pos h2] at h
        obtain ⟨rfl, rfl⟩ := h2
        replace h := Option.bind_eq_some_iff.1 h
        obtain ⟨d, hd, h⟩ := h
        by_cases hn : d.size ≤ 300
        · rw [if_pos hn] at h
          cases h
          exact write_int k A13 c13 a2 _ hd hn hs w hr hG
        · rw [if_neg hn] at h; cases h
      · rw [if_neg h2] at h
        by_cases h3 : a1 = 3 ∧ a2 = 0 ∧ a3.size ≤ 200
        · rw [if_pos h3] at h
          obtain ⟨rfl, rfl, h200⟩ := h3
          replace h := Option.bind_eq_some_iff.1 h
          obtain ⟨t, ht, h⟩ := h
          by_cases hn : t.size ≤ 300
          · rw [if_pos hn] at h
            cases h
            exact write_txt k A13 c13 a3 _ h200 ht hn hs w hr hG
          · rw [if_neg hn] at h; cases h
        · rw [if_neg h3] at h; cases h
  · split at h
    · rename_i h2
      obtain ⟨rfl, rfl, rfl, rfl⟩ := h2
      replace h := Option.bind_eq_some_iff.1 h
      obtain ⟨b, hs, h⟩ := h
      replace h := Option.bind_eq_some_iff.1 h
      obtain ⟨⟨r, f⟩, hp, h⟩ := h
      split at h
      · rename_i hn
        obtain ⟨hf, hn⟩ := hn
        have hf : f = 0 := hf
        subst hf
        cases h
        exact write_for k ⟨a4, ⟨a5, a6, a7⟩, ⟨⟨a8, a9⟩, ⟨a10, a11⟩⟩, a12, l13⟩ A13 c13 r b hc hp hn hs w hr hG
      · cases h
    · cases h
end Go.Proofs.YtnomfbmebafolaaGreatDoor.P

namespace Go.Proofs.YtnomfbmebafolaaGreatDoor.P
open Go.RowKit Go.Proofs.YtnomfbmebafolaaGreatDoorW.PrintWords Go.Proofs.YtnomfbmebafolaaGreatDoorW.PrintLast Go.Proofs.YtnomfbmebafolaaGreatDoorW.PrintMore
attribute [local go_sem] max2_int min2_int max_two min_two max_three min_three max_four min_four   -- for this text's walks alone
set_option linter.unusedVariables false
set_option linter.unusedSimpArgs false
def source_Clean.f (k : Nat) (a0 : ByteArray) : Option (ByteArray × Int × Int) := (source_Read.f k a0).bind fun bt194 => (if bt194.2.2.2.2.2.2.2.2.2.2.2.2.2.2.2 = 0 then ((source_Write.f k bt194.1 bt194.2.1 bt194.2.2.1 bt194.2.2.2.1 bt194.2.2.2.2.1 bt194.2.2.2.2.2.1 bt194.2.2.2.2.2.2.1 bt194.2.2.2.2.2.2.2.1 bt194.2.2.2.2.2.2.2.2.1 bt194.2.2.2.2.2.2.2.2.2.1 bt194.2.2.2.2.2.2.2.2.2.2.1 bt194.2.2.2.2.2.2.2.2.2.2.2.1 bt194.2.2.2.2.2.2.2.2.2.2.2.2.1 bt194.2.2.2.2.2.2.2.2.2.2.2.2.2.1).bind fun bt213 => (some (bt213.1, 0, bt213.2))) else (some ((⟨#[]⟩ : ByteArray), bt194.2.2.2.2.2.2.2.2.2.2.2.2.2.2.1, bt194.2.2.2.2.2.2.2.2.2.2.2.2.2.2.2)))
set_option maxHeartbeats 8000000 in
set_option maxRecDepth 100000 in
theorem source_Clean.calls (k : Nat) (a0 : ByteArray) (r1 : ByteArray) (r2 : Int) (r3 : Int) (w : World) (hG : G5 w) (h : source_Clean.f k a0 = some (r1, r2, r3)) :
    Calls Tryz.prog 16 #[.string a0] w fun e w' => e = .returned (.tuple #[.string r1, .int .i64 r2, .int .i64 r3]) ∧ Below w.heap.size w w' := by
  have hu40 := Tryz.underlying40
  have HB := Aside0.mk (Below.refl w.heap.size w)
  have H : ((source_Read.f k a0).bind fun bt194 => (if bt194.2.2.2.2.2.2.2.2.2.2.2.2.2.2.2 = 0 then ((source_Write.f k bt194.1 bt194.2.1 bt194.2.2.1 bt194.2.2.2.1 bt194.2.2.2.2.1 bt194.2.2.2.2.2.1 bt194.2.2.2.2.2.2.1 bt194.2.2.2.2.2.2.2.1 bt194.2.2.2.2.2.2.2.2.1 bt194.2.2.2.2.2.2.2.2.2.1 bt194.2.2.2.2.2.2.2.2.2.2.1 bt194.2.2.2.2.2.2.2.2.2.2.2.1 bt194.2.2.2.2.2.2.2.2.2.2.2.2.1 bt194.2.2.2.2.2.2.2.2.2.2.2.2.2.1).bind fun bt213 => (some (bt213.1, 0, bt213.2))) else (some ((⟨#[]⟩ : ByteArray), bt194.2.2.2.2.2.2.2.2.2.2.2.2.2.2.1, bt194.2.2.2.2.2.2.2.2.2.2.2.2.2.2.2)))) = some (r1, r2, r3) := h
  clear h
  replace H := Option.bind_eq_some_iff.mp H
  obtain ⟨⟨t194, t195, t196, t197, t198, t199, t200, t201, t202, t203, t204, t205, t206, t207, t210, t211⟩, A20, H⟩ := H
  replace H : (if t211 = 0 then ((source_Write.f k t194 t195 t196 t197 t198 t199 t200 t201 t202 t203 t204 t205 t206 t207).bind fun bt213 => (some (bt213.1, 0, bt213.2))) else (some ((⟨#[]⟩ : ByteArray), t210, t211))) = some (r1, r2, r3) := H
  have A2 := Aside0.mk A20
  clear A20
  by_cases c3 : t211 = 0
  · rw [if_pos c3] at H
    have c3b0 : (t211 == 0) = true := beq_iff_eq.mpr c3
    have c3b1 : (t211 != 0) = false := bne_eq_false_iff_eq.mpr c3
    clear c3
    replace H := Option.bind_eq_some_iff.mp H
    obtain ⟨⟨t213, t214⟩, A40, H⟩ := H
    replace H : (some (t213, 0, t214)) = some (r1, r2, r3) := H
    have A4 := Aside0.mk A40
    clear A40
    simp only [Option.some.injEq, Prod.mk.injEq] at H
    obtain ⟨rfl, rfl, rfl⟩ := H
    go_enter Tryz.func16, Tryz.ntmps16
    go_wp2_with (first | ((with_reducible refine gate_callee (f := 9) rfl ?_); refine goesL_ (some 11) rfl rfl Tryz.func9 (by kernel_rfl) rfl #[.string a0] rfl zz25 ?_; (with_reducible refine (source_Read.calls k a0 t194 t195 t196 t197 t198 t199 t200 t201 t202 t203 t204 t205 t206 t207 t210 t211 _ ?side1 A2.out).mono ?_); (case side1 => exact gl_5_5 zz1 hG); rintro e w5 ⟨v208, rfl, ho0, hb⟩; refine ⟨_, rfl, ?_⟩; have n0_ := Aside0.mk (Kd.V_lower (Kd.V_mono (ok' := fun k_ => True) ho0 (fun k_ hk_ => trivial)) (below_size zz1)); have n1_ := Aside0.mk (below_step zz1 hb); clear HB; have HO209 := n0_; have HB := n1_; clear n0_ n1_; (try clear hb); (try clear hb2); (try clear hk); (try clear hi); (try clear ho0)) | ((with_reducible refine gate_dst (N := 5) rfl ?_); refine box_event ?hg (N := 5) ?hd (cs := #[.int .i64 0, .int .i64 0, .int .i64 0, .string (⟨#[]⟩ : ByteArray), .int .i64 0, .int .i64 0, .int .i64 0, .string (⟨#[]⟩ : ByteArray), .int .i64 0, .int .i64 0, .int .i64 0, .int .i64 0, .string (⟨#[]⟩ : ByteArray), .slice none 0 0]) (t := 40) ?hr ?_; (case hd => rfl); (case hg => rfl); (case hr => first | (go_simp; done) | (go_simp; rfl)); intro gb212 hg w6 hbox hb; have n0_ := Aside0.mk (Kd.V_below (Kd.V_elderB (by (with_reducible repeat (first | apply Kd.V_alloc | apply Kd.V_drewN | apply Kd.V_drew)); exact HO209.out) gb212 (Nat.le_of_eq hg.symm)) hb); have n1_ := Aside0.mk (below_step zz1 hb); have n2_ := Aside0.mk (hbox); have n3_ := Aside0.mk ((by rw [hg]; exact (below_size zz1) : w.heap.size ≤ gb212)); have n4_ := n3_; clear HO209; clear HB; have HO209 := n0_; have HB := n1_; have BK212 := n2_; have GW212 := n3_; have GE212 := n4_; clear n0_ n1_ n2_ n3_ n4_; clear hb hbox hg; obtain ⟨_, _, _, _, _, _, _, _, _, _, _, _, _, _, _, _, _, _, _, _, _, _, _, _, _, _, _, _⟩ := zC14 BK212.out; obtain ⟨Ao8, co8, eo8⟩ := Kd.V_slice HO209.out; subst eo8) | ((with_reducible refine gate_callee (f := 8) rfl ?_); refine goesL_ (some 21) rfl rfl Tryz.func8 (by kernel_rfl) rfl #[.agg #[.int .i64 t194, .int .i64 t195, .int .i64 t196, .string t197, .int .i64 t198, .int .i64 t199, .int .i64 t200, .string t201, .int .i64 t202, .int .i64 t203, .int .i64 t204, .int .i64 t205, .string t206, .slice Ao8 t207.length co8]] rfl zz25 ?_; (with_reducible refine (source_Write.calls k t194 t195 t196 t197 t198 t199 t200 t201 t202 t203 t204 t205 t206 _ _ t207 t213 t214 _ ?side1 ?side2 ?side3 A4.out).mono ?_); (case side1 => refine (Kd.V_reads' (e := 31) (base := w.heap.size) (ok := fun k_ => (True ∧ k_ ≠ gb212)) (n := t207.length) (c := co8) ?_).2.2; exact (by (with_reducible repeat (first | apply Kd.V_alloc | apply Kd.V_drewN | apply Kd.V_drew)); exact (Kd.V_mono (Kd.V_far (p := ⟨gb212, 13, none⟩) (Kd.V_far (p := ⟨gb212, 12, none⟩) (Kd.V_far (p := ⟨gb212, 11, none⟩) (Kd.V_far (p := ⟨gb212, 10, none⟩) (Kd.V_far (p := ⟨gb212, 9, none⟩) (Kd.V_far (p := ⟨gb212, 8, none⟩) (Kd.V_far (p := ⟨gb212, 7, none⟩) (Kd.V_far (p := ⟨gb212, 6, none⟩) (Kd.V_far (p := ⟨gb212, 5, none⟩) (Kd.V_far (p := ⟨gb212, 4, none⟩) (Kd.V_far (p := ⟨gb212, 3, none⟩) (Kd.V_far (p := ⟨gb212, 2, none⟩) (Kd.V_far (p := ⟨gb212, 1, none⟩) (Kd.V_far (p := ⟨gb212, 0, none⟩) (Kd.V_mono HO209.out (fun k_ hk => (⟨hk, hk.2⟩ : _ ∧ k_ ≠ gb212))) (fun _ hk => hk.2) (.int .i64 t194)) (fun _ hk => hk.2) (.int .i64 t195)) (fun _ hk => hk.2) (.int .i64 t196)) (fun _ hk => hk.2) (.string t197)) (fun _ hk => hk.2) (.int .i64 t198)) (fun _ hk => hk.2) (.int .i64 t199)) (fun _ hk => hk.2) (.int .i64 t200)) (fun _ hk => hk.2) (.string t201)) (fun _ hk => hk.2) (.int .i64 t202)) (fun _ hk => hk.2) (.int .i64 t203)) (fun _ hk => hk.2) (.int .i64 t204)) (fun _ hk => hk.2) (.int .i64 t205)) (fun _ hk => hk.2) (.string t206)) (fun _ hk => hk.2) (.slice Ao8 t207.length co8)) (fun _ h_ => h_.1)))); (case side2 => exact (Kd.V_reads' HO209.out).2.1); (case side3 => exact gl_5_5 zz20 hG); rintro e w9 ⟨rfl, hb⟩; refine ⟨_, rfl, ?_⟩; have n0_ := Aside0.mk (Kd.V_below (by (with_reducible repeat (first | apply Kd.V_alloc | apply Kd.V_drewN | apply Kd.V_drew)); exact (Kd.V_mono (Kd.V_far (p := ⟨gb212, 13, none⟩) (Kd.V_far (p := ⟨gb212, 12, none⟩) (Kd.V_far (p := ⟨gb212, 11, none⟩) (Kd.V_far (p := ⟨gb212, 10, none⟩) (Kd.V_far (p := ⟨gb212, 9, none⟩) (Kd.V_far (p := ⟨gb212, 8, none⟩) (Kd.V_far (p := ⟨gb212, 7, none⟩) (Kd.V_far (p := ⟨gb212, 6, none⟩) (Kd.V_far (p := ⟨gb212, 5, none⟩) (Kd.V_far (p := ⟨gb212, 4, none⟩) (Kd.V_far (p := ⟨gb212, 3, none⟩) (Kd.V_far (p := ⟨gb212, 2, none⟩) (Kd.V_far (p := ⟨gb212, 1, none⟩) (Kd.V_far (p := ⟨gb212, 0, none⟩) (Kd.V_mono HO209.out (fun k_ hk => (⟨hk, hk.2⟩ : _ ∧ k_ ≠ gb212))) (fun _ hk => hk.2) (.int .i64 t194)) (fun _ hk => hk.2) (.int .i64 t195)) (fun _ hk => hk.2) (.int .i64 t196)) (fun _ hk => hk.2) (.string t197)) (fun _ hk => hk.2) (.int .i64 t198)) (fun _ hk => hk.2) (.int .i64 t199)) (fun _ hk => hk.2) (.int .i64 t200)) (fun _ hk => hk.2) (.string t201)) (fun _ hk => hk.2) (.int .i64 t202)) (fun _ hk => hk.2) (.int .i64 t203)) (fun _ hk => hk.2) (.int .i64 t204)) (fun _ hk => hk.2) (.int .i64 t205)) (fun _ hk => hk.2) (.string t206)) (fun _ hk => hk.2) (.slice Ao8 t207.length co8)) (fun _ h_ => h_.1))) hb); have n1_ := Aside0.mk (blk_below (g := gb212) (o := .cells #[.int .i64 t194, .int .i64 t195, .int .i64 t196, .string t197, .int .i64 t198, .int .i64 t199, .int .i64 t200, .string t201, .int .i64 t202, .int .i64 t203, .int .i64 t204, .int .i64 t205, .string t206, .slice Ao8 t207.length co8] 40 (0, 0)) (by refine zB ?_; refine blk_put (cs := #[.int .i64 t194, .int .i64 t195, .int .i64 t196, .string t197, .int .i64 t198, .int .i64 t199, .int .i64 t200, .string t201, .int .i64 t202, .int .i64 t203, .int .i64 t204, .int .i64 t205, .string t206, .slice none 0 0]) ?_ 13 _ rfl; refine zB ?_; refine blk_put (cs := #[.int .i64 t194, .int .i64 t195, .int .i64 t196, .string t197, .int .i64 t198, .int .i64 t199, .int .i64 t200, .string t201, .int .i64 t202, .int .i64 t203, .int .i64 t204, .int .i64 t205, .string (⟨#[]⟩ : ByteArray), .slice none 0 0]) ?_ 12 _ rfl; refine zB ?_; refine blk_put (cs := #[.int .i64 t194, .int .i64 t195, .int .i64 t196, .string t197, .int .i64 t198, .int .i64 t199, .int .i64 t200, .string t201, .int .i64 t202, .int .i64 t203, .int .i64 t204, .int .i64 0, .string (⟨#[]⟩ : ByteArray), .slice none 0 0]) ?_ 11 _ rfl; refine zB ?_; refine blk_put (cs := #[.int .i64 t194, .int .i64 t195, .int .i64 t196, .string t197, .int .i64 t198, .int .i64 t199, .int .i64 t200, .string t201, .int .i64 t202, .int .i64 t203, .int .i64 0, .int .i64 0, .string (⟨#[]⟩ : ByteArray), .slice none 0 0]) ?_ 10 _ rfl; refine zB ?_; refine blk_put (cs := #[.int .i64 t194, .int .i64 t195, .int .i64 t196, .string t197, .int .i64 t198, .int .i64 t199, .int .i64 t200, .string t201, .int .i64 t202, .int .i64 0, .int .i64 0, .int .i64 0, .string (⟨#[]⟩ : ByteArray), .slice none 0 0]) ?_ 9 _ rfl; refine zB ?_; refine blk_put (cs := #[.int .i64 t194, .int .i64 t195, .int .i64 t196, .string t197, .int .i64 t198, .int .i64 t199, .int .i64 t200, .string t201, .int .i64 0, .int .i64 0, .int .i64 0, .int .i64 0, .string (⟨#[]⟩ : ByteArray), .slice none 0 0]) ?_ 8 _ rfl; refine zB ?_; refine blk_put (cs := #[.int .i64 t194, .int .i64 t195, .int .i64 t196, .string t197, .int .i64 t198, .int .i64 t199, .int .i64 t200, .string (⟨#[]⟩ : ByteArray), .int .i64 0, .int .i64 0, .int .i64 0, .int .i64 0, .string (⟨#[]⟩ : ByteArray), .slice none 0 0]) ?_ 7 _ rfl; refine zB ?_; refine blk_put (cs := #[.int .i64 t194, .int .i64 t195, .int .i64 t196, .string t197, .int .i64 t198, .int .i64 t199, .int .i64 0, .string (⟨#[]⟩ : ByteArray), .int .i64 0, .int .i64 0, .int .i64 0, .int .i64 0, .string (⟨#[]⟩ : ByteArray), .slice none 0 0]) ?_ 6 _ rfl; refine zB ?_; refine blk_put (cs := #[.int .i64 t194, .int .i64 t195, .int .i64 t196, .string t197, .int .i64 t198, .int .i64 0, .int .i64 0, .string (⟨#[]⟩ : ByteArray), .int .i64 0, .int .i64 0, .int .i64 0, .int .i64 0, .string (⟨#[]⟩ : ByteArray), .slice none 0 0]) ?_ 5 _ rfl; refine zB ?_; refine blk_put (cs := #[.int .i64 t194, .int .i64 t195, .int .i64 t196, .string t197, .int .i64 0, .int .i64 0, .int .i64 0, .string (⟨#[]⟩ : ByteArray), .int .i64 0, .int .i64 0, .int .i64 0, .int .i64 0, .string (⟨#[]⟩ : ByteArray), .slice none 0 0]) ?_ 4 _ rfl; refine zB ?_; refine blk_put (cs := #[.int .i64 t194, .int .i64 t195, .int .i64 t196, .string (⟨#[]⟩ : ByteArray), .int .i64 0, .int .i64 0, .int .i64 0, .string (⟨#[]⟩ : ByteArray), .int .i64 0, .int .i64 0, .int .i64 0, .int .i64 0, .string (⟨#[]⟩ : ByteArray), .slice none 0 0]) ?_ 3 _ rfl; refine zB ?_; refine blk_put (cs := #[.int .i64 t194, .int .i64 t195, .int .i64 0, .string (⟨#[]⟩ : ByteArray), .int .i64 0, .int .i64 0, .int .i64 0, .string (⟨#[]⟩ : ByteArray), .int .i64 0, .int .i64 0, .int .i64 0, .int .i64 0, .string (⟨#[]⟩ : ByteArray), .slice none 0 0]) ?_ 2 _ rfl; refine zB ?_; refine blk_put (cs := #[.int .i64 t194, .int .i64 0, .int .i64 0, .string (⟨#[]⟩ : ByteArray), .int .i64 0, .int .i64 0, .int .i64 0, .string (⟨#[]⟩ : ByteArray), .int .i64 0, .int .i64 0, .int .i64 0, .int .i64 0, .string (⟨#[]⟩ : ByteArray), .slice none 0 0]) ?_ 1 _ rfl; refine zB ?_; refine blk_put (cs := #[.int .i64 0, .int .i64 0, .int .i64 0, .string (⟨#[]⟩ : ByteArray), .int .i64 0, .int .i64 0, .int .i64 0, .string (⟨#[]⟩ : ByteArray), .int .i64 0, .int .i64 0, .int .i64 0, .int .i64 0, .string (⟨#[]⟩ : ByteArray), .slice none 0 0]) ?_ 0 _ rfl; refine zB ?_; exact BK212.out) hb); have n2_ := Aside0.mk (below_step zz20 hb); clear HO209; clear BK212; clear HB; have HO209 := n0_; have BK212 := n1_; have HB := n2_; clear n0_ n1_ n2_; (try clear hb); (try clear hb2); (try clear hk); (try clear hi)))
    go_ret3
    exact ⟨zz26, zz20⟩
  · rw [if_neg c3] at H
    have c3b0 : (t211 == 0) = false := beq_eq_false_iff_ne.mpr c3
    have c3b1 : (t211 != 0) = true := bne_iff_ne.mpr c3
    simp only [Option.some.injEq, Prod.mk.injEq] at H
    obtain ⟨rfl, rfl, rfl⟩ := H
    go_enter Tryz.func16, Tryz.ntmps16
    go_wp2_with (first | ((with_reducible refine gate_callee (f := 9) rfl ?_); refine goesL_ (some 11) rfl rfl Tryz.func9 (by kernel_rfl) rfl #[.string a0] rfl zz25 ?_; (with_reducible refine (source_Read.calls k a0 t194 t195 t196 t197 t198 t199 t200 t201 t202 t203 t204 t205 t206 t207 t210 t211 _ ?side1 A2.out).mono ?_); (case side1 => exact gl_5_5 zz1 hG); rintro e w10 ⟨v208, rfl, ho0, hb⟩; refine ⟨_, rfl, ?_⟩; have n0_ := Aside0.mk (Kd.V_lower (Kd.V_mono (ok' := fun k_ => True) ho0 (fun k_ hk_ => trivial)) (below_size zz1)); have n1_ := Aside0.mk (below_step zz1 hb); clear HB; have HO209 := n0_; have HB := n1_; clear n0_ n1_; (try clear hb); (try clear hb2); (try clear hk); (try clear hi); (try clear ho0)) | ((with_reducible refine gate_dst (N := 5) rfl ?_); refine box_event ?hg (N := 5) ?hd (cs := #[.int .i64 0, .int .i64 0, .int .i64 0, .string (⟨#[]⟩ : ByteArray), .int .i64 0, .int .i64 0, .int .i64 0, .string (⟨#[]⟩ : ByteArray), .int .i64 0, .int .i64 0, .int .i64 0, .int .i64 0, .string (⟨#[]⟩ : ByteArray), .slice none 0 0]) (t := 40) ?hr ?_; (case hd => rfl); (case hg => rfl); (case hr => first | (go_simp; done) | (go_simp; rfl)); intro gb212 hg w11 hbox hb; have n0_ := Aside0.mk (Kd.V_below (Kd.V_elderB (by (with_reducible repeat (first | apply Kd.V_alloc | apply Kd.V_drewN | apply Kd.V_drew)); exact HO209.out) gb212 (Nat.le_of_eq hg.symm)) hb); have n1_ := Aside0.mk (below_step zz1 hb); have n2_ := Aside0.mk (hbox); have n3_ := Aside0.mk ((by rw [hg]; exact (below_size zz1) : w.heap.size ≤ gb212)); have n4_ := n3_; clear HO209; clear HB; have HO209 := n0_; have HB := n1_; have BK212 := n2_; have GW212 := n3_; have GE212 := n4_; clear n0_ n1_ n2_ n3_ n4_; clear hb hbox hg; obtain ⟨hcz12_0, hcz12_1, hcz12_2, hcz12_3, hcz12_4, hcz12_5, hcz12_6, hcz12_7, hcz12_8, hcz12_9, _, _, _, _, hfz12_0, hfz12_1, hfz12_2, hfz12_3, hfz12_4, hfz12_5, hfz12_6, hfz12_7, hfz12_8, hfz12_9, _, _, _, _⟩ := zC14 BK212.out; obtain ⟨Ao13, co13, eo13⟩ := Kd.V_slice HO209.out; subst eo13))
    go_ret3
    exact ⟨zz26, zz20⟩
end Go.Proofs.YtnomfbmebafolaaGreatDoor.P
